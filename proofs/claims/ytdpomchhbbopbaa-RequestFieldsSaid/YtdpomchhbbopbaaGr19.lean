/- Several texts in one, as they stand in wip/src. -/
import Derived.Test.YtdpomchhbbopbaaGr18
/- Walks: what operations ask for; may a request be? -/
namespace Go.Proofs.Ytdpomchhbbopbaa
open Go Go.RowKit
set_option linter.unusedVariables false
set_option maxRecDepth 4000
theorem go_ReqN {A B : Prop} (h : Held B → A := by
  intro hEnd
  repeat (first | refine OW_geqTr rfl rfl (by assumption) ?_ | refine OW_geqFa rfl rfl (by assumption) ?_ | refine OW_indexV rfl rfl (by assumption) ?_ | refine OW_fieldBL fldo_S0 rfl ?_ | refine OW_fieldBL fldo_S1 rfl ?_ | refine OW_eqlFn und_fn rfl ?_ | refine OW_eqlFnN und_fn rfl ?_ | refine OW_fieldBL fldo_Q0 rfl ?_ | refine OW_fieldBL fldo_Q1 rfl ?_ | refine OW_fieldBL fldo_Q2 rfl ?_ | refine OW_fieldBL fldo_Q3 rfl ?_ | refine OW_fieldBL fldo_Q4 rfl ?_ | refine OW_fieldBL fldo_Q5 rfl ?_ | refine OW_fieldBL fldo_Q6 rfl ?_ | refine OW_fieldBL fldo_Q7 rfl ?_ | refine OW_fieldBL fldo_Q8 rfl ?_ | refine OW_fieldBL fldo_Q9 rfl ?_ | refine OW_fieldG fldo_G0 rfl ?_ | refine OW_fieldG fldo_G1 rfl ?_ | refine OW_fieldG fldo_G2 rfl ?_ | refine OW_fieldBL fldo_G0 rfl ?_ | refine OW_fieldBL fldo_G1 rfl ?_ | refine OW_fieldBL fldo_G2 rfl ?_ | refine OW_nilCheck rfl ?_ | refine OW_lenL und_string rfl ?_ | refine OW_eqlE rfl rfl ?_ | refine OW_moveV (.int _ _) rfl ?_ | refine OW_moveV (.slice _ _ _) rfl ?_ | refine OW_moveV (.bool _) rfl ?_ | refine OW_moveV (.pointer _) rfl ?_ | refine OW_moveV (.string _) rfl ?_ | refine OW_moveV (.agg _) rfl ?_ | refine OW_moveV (.tuple _) rfl ?_ | refine OW_nil ?_ | refine thenE_normal ?_ | refine CW_seq ?_ | refine CW_region (by kernel_rfl) ?_ | refine OW_assignV (.int _ _) rfl ?_ | refine OW_assignV (.slice _ _ _) rfl ?_ | refine OW_assignV (.bool _) rfl ?_ | refine OW_assignV (.pointer _) rfl ?_ | refine OW_assignV (.string _) rfl ?_ | refine OW_assignV (.agg _) rfl ?_ | refine OW_assignV (.tuple _) rfl ?_ | refine OW_addI rfl rfl (by omega) ?_ | refine OW_subI rfl rfl (by omega) ?_ | refine OW_mulI rfl rfl (by omega) ?_ | refine OW_lss rfl rfl ?_ | refine OW_extract rfl rfl ?_ | refine OW_gtr rfl rfl ?_ | refine OW_leq rfl rfl ?_ | refine OW_geq rfl rfl ?_ | refine OW_eql rfl rfl ?_ | refine OW_neq rfl rfl ?_ | refine OW_not rfl ?_ | refine OW_pickT rfl _ rfl ?_ | refine OW_pickF rfl (.bool _) rfl ?_ | refine OW_pickB rfl rfl rfl ?_ | refine OW_move ?_ | refine OW_assign ?_ | refine OW_pass rfl ?_ | refine OW_take rfl ?_ | refine OW_lenS (by first | with_reducible exact und_bytes | with_reducible exact und_bytess) rfl ?_ | refine OW_convInt (by first | with_reducible exact und_u8 | with_reducible exact und_u64 | with_reducible exact und_int | with_reducible exact und_u32) (by first | with_reducible exact und_u8 | with_reducible exact und_u64 | with_reducible exact und_int | with_reducible exact und_u32) rfl ?_ | refine OW_add rfl rfl ?_ | refine OW_sub rfl rfl ?_ | refine OW_mul rfl rfl ?_ | refine OW_min2 rfl rfl ?_ | refine OW_max2 rfl rfl ?_ | refine OW_neg rfl ?_ | refine CW_block ?_ | refine CW_condT rfl ?_ | refine CW_condF rfl ?_ | refine CW_exit ?_ | refine CW_ret ?_ | refine CW_skip ?_ | refine LW_seq ?_ | refine LW_regC ?_ | refine LW_condC ?_ | refine LW_regF ?_ | refine LW_condF ?_ | refine FW_seq ?_ | refine FW_region (by kernel_rfl) ?_ | refine FW_block ?_ | refine FW_condT rfl ?_ | refine FW_condF rfl ?_ | refine FW_exit ?_ | refine FW_ret ?_ | refine FW_skip ?_ | refine LW_ret ?_ | refine LW_skip ?_ | refine thenE_exit ?_ | refine thenE_ret ?_ | refine inBlockE_normal ?_ | refine inBlockE_same ?_ | refine inBlockE_ret ?_ | refine inBlockE_ne (by rfl) ?_ | refine OW_eqlB (by with_reducible exact und_bool) rfl rfl ?_ | refine OW_neqB (by with_reducible exact und_bool) rfl rfl ?_ | refine OW_idxS (by with_reducible exact und_bytes) one_u8 rfl rfl _ rfl (by omega) ?_ | refine OW_idxS (by with_reducible exact und_bytess) one_bytes rfl rfl _ rfl (by omega) ?_ | refine OW_load1 (by first | with_reducible exact one_u8 | with_reducible exact one_bytes) rfl _ (by assumption) ?_ | (refine OW_isLoad ?_; refine OW_loadBk (by first | with_reducible exact one_u8 | with_reducible exact one_int | with_reducible exact one_str | with_reducible exact one_bytes | with_reducible exact one_fn | with_reducible exact one_fp) rfl (by assumption) _ (by rfl) ?_))
  exact hEnd.out) (k : B) : A := h ⟨k⟩
theorem oy_ReqN {A B : Prop} (h : Held B → A := by
  intro hEnd
  repeat (first
    | refine OY_done ?_
    | (apply OY_p _ rfl
       · intro wd
         (first | refine OW_geqTr rfl rfl (by assumption) ?_ | refine OW_geqFa rfl rfl (by assumption) ?_ | refine OW_indexV rfl rfl (by assumption) ?_ | refine OW_fieldBL fldo_S0 rfl ?_ | refine OW_fieldBL fldo_S1 rfl ?_ | refine OW_eqlFn und_fn rfl ?_ | refine OW_eqlFnN und_fn rfl ?_ | refine OW_fieldBL fldo_Q0 rfl ?_ | refine OW_fieldBL fldo_Q1 rfl ?_ | refine OW_fieldBL fldo_Q2 rfl ?_ | refine OW_fieldBL fldo_Q3 rfl ?_ | refine OW_fieldBL fldo_Q4 rfl ?_ | refine OW_fieldBL fldo_Q5 rfl ?_ | refine OW_fieldBL fldo_Q6 rfl ?_ | refine OW_fieldBL fldo_Q7 rfl ?_ | refine OW_fieldBL fldo_Q8 rfl ?_ | refine OW_fieldBL fldo_Q9 rfl ?_ | refine OW_fieldG fldo_G0 rfl ?_ | refine OW_fieldG fldo_G1 rfl ?_ | refine OW_fieldG fldo_G2 rfl ?_ | refine OW_fieldBL fldo_G0 rfl ?_ | refine OW_fieldBL fldo_G1 rfl ?_ | refine OW_fieldBL fldo_G2 rfl ?_ | refine OW_nilCheck rfl ?_ | refine OW_lenL und_string rfl ?_ | refine OW_eqlE rfl rfl ?_ | refine OW_moveV (.int _ _) rfl ?_ | refine OW_moveV (.slice _ _ _) rfl ?_ | refine OW_moveV (.bool _) rfl ?_ | refine OW_moveV (.pointer _) rfl ?_ | refine OW_moveV (.string _) rfl ?_ | refine OW_moveV (.agg _) rfl ?_ | refine OW_moveV (.tuple _) rfl ?_ | refine OW_nil ?_ | refine thenE_normal ?_ | refine CW_seq ?_ | refine CW_region (by kernel_rfl) ?_ | refine OW_assignV (.int _ _) rfl ?_ | refine OW_assignV (.slice _ _ _) rfl ?_ | refine OW_assignV (.bool _) rfl ?_ | refine OW_assignV (.pointer _) rfl ?_ | refine OW_assignV (.string _) rfl ?_ | refine OW_assignV (.agg _) rfl ?_ | refine OW_assignV (.tuple _) rfl ?_ | refine OW_addI rfl rfl (by omega) ?_ | refine OW_subI rfl rfl (by omega) ?_ | refine OW_mulI rfl rfl (by omega) ?_ | refine OW_lss rfl rfl ?_ | refine OW_extract rfl rfl ?_ | refine OW_gtr rfl rfl ?_ | refine OW_leq rfl rfl ?_ | refine OW_geq rfl rfl ?_ | refine OW_eql rfl rfl ?_ | refine OW_neq rfl rfl ?_ | refine OW_not rfl ?_ | refine OW_pickT rfl _ rfl ?_ | refine OW_pickF rfl (.bool _) rfl ?_ | refine OW_pickB rfl rfl rfl ?_ | refine OW_move ?_ | refine OW_assign ?_ | refine OW_pass rfl ?_ | refine OW_take rfl ?_ | refine OW_lenS (by first | with_reducible exact und_bytes | with_reducible exact und_bytess) rfl ?_ | refine OW_convInt (by first | with_reducible exact und_u8 | with_reducible exact und_u64 | with_reducible exact und_int | with_reducible exact und_u32) (by first | with_reducible exact und_u8 | with_reducible exact und_u64 | with_reducible exact und_int | with_reducible exact und_u32) rfl ?_ | refine OW_add rfl rfl ?_ | refine OW_sub rfl rfl ?_ | refine OW_mul rfl rfl ?_ | refine OW_min2 rfl rfl ?_ | refine OW_max2 rfl rfl ?_ | refine OW_neg rfl ?_ | refine CW_block ?_ | refine CW_condT rfl ?_ | refine CW_condF rfl ?_ | refine CW_exit ?_ | refine CW_ret ?_ | refine CW_skip ?_ | refine LW_seq ?_ | refine LW_regC ?_ | refine LW_condC ?_ | refine LW_regF ?_ | refine LW_condF ?_ | refine FW_seq ?_ | refine FW_region (by kernel_rfl) ?_ | refine FW_block ?_ | refine FW_condT rfl ?_ | refine FW_condF rfl ?_ | refine FW_exit ?_ | refine FW_ret ?_ | refine FW_skip ?_ | refine LW_ret ?_ | refine LW_skip ?_ | refine thenE_exit ?_ | refine thenE_ret ?_ | refine inBlockE_normal ?_ | refine inBlockE_same ?_ | refine inBlockE_ret ?_ | refine inBlockE_ne (by rfl) ?_ | refine OW_eqlB (by with_reducible exact und_bool) rfl rfl ?_ | refine OW_neqB (by with_reducible exact und_bool) rfl rfl ?_ | refine OW_idxS (by with_reducible exact und_bytes) one_u8 rfl rfl _ rfl (by omega) ?_ | refine OW_idxS (by with_reducible exact und_bytess) one_bytes rfl rfl _ rfl (by omega) ?_ | refine OW_load1 (by first | with_reducible exact one_u8 | with_reducible exact one_bytes) rfl _ (by assumption) ?_ | (refine OW_isLoad ?_; refine OW_loadBk (by first | with_reducible exact one_u8 | with_reducible exact one_int | with_reducible exact one_str | with_reducible exact one_bytes | with_reducible exact one_fn | with_reducible exact one_fp) rfl (by assumption) _ (by rfl) ?_))
         refine OW_nil ?_
         exact stay_mk _ _ _ _)
    | (apply OY_q _ rfl
       · intro wd hwd
         (first | refine OW_geqTr rfl rfl (by assumption) ?_ | refine OW_geqFa rfl rfl (by assumption) ?_ | refine OW_indexV rfl rfl (by assumption) ?_ | refine OW_fieldBL fldo_S0 rfl ?_ | refine OW_fieldBL fldo_S1 rfl ?_ | refine OW_eqlFn und_fn rfl ?_ | refine OW_eqlFnN und_fn rfl ?_ | refine OW_fieldBL fldo_Q0 rfl ?_ | refine OW_fieldBL fldo_Q1 rfl ?_ | refine OW_fieldBL fldo_Q2 rfl ?_ | refine OW_fieldBL fldo_Q3 rfl ?_ | refine OW_fieldBL fldo_Q4 rfl ?_ | refine OW_fieldBL fldo_Q5 rfl ?_ | refine OW_fieldBL fldo_Q6 rfl ?_ | refine OW_fieldBL fldo_Q7 rfl ?_ | refine OW_fieldBL fldo_Q8 rfl ?_ | refine OW_fieldBL fldo_Q9 rfl ?_ | refine OW_fieldG fldo_G0 rfl ?_ | refine OW_fieldG fldo_G1 rfl ?_ | refine OW_fieldG fldo_G2 rfl ?_ | refine OW_fieldBL fldo_G0 rfl ?_ | refine OW_fieldBL fldo_G1 rfl ?_ | refine OW_fieldBL fldo_G2 rfl ?_ | refine OW_nilCheck rfl ?_ | refine OW_lenL und_string rfl ?_ | refine OW_eqlE rfl rfl ?_ | refine OW_moveV (.int _ _) rfl ?_ | refine OW_moveV (.slice _ _ _) rfl ?_ | refine OW_moveV (.bool _) rfl ?_ | refine OW_moveV (.pointer _) rfl ?_ | refine OW_moveV (.string _) rfl ?_ | refine OW_moveV (.agg _) rfl ?_ | refine OW_moveV (.tuple _) rfl ?_ | refine OW_nil ?_ | refine thenE_normal ?_ | refine CW_seq ?_ | refine CW_region (by kernel_rfl) ?_ | refine OW_assignV (.int _ _) rfl ?_ | refine OW_assignV (.slice _ _ _) rfl ?_ | refine OW_assignV (.bool _) rfl ?_ | refine OW_assignV (.pointer _) rfl ?_ | refine OW_assignV (.string _) rfl ?_ | refine OW_assignV (.agg _) rfl ?_ | refine OW_assignV (.tuple _) rfl ?_ | refine OW_addI rfl rfl (by omega) ?_ | refine OW_subI rfl rfl (by omega) ?_ | refine OW_mulI rfl rfl (by omega) ?_ | refine OW_lss rfl rfl ?_ | refine OW_extract rfl rfl ?_ | refine OW_gtr rfl rfl ?_ | refine OW_leq rfl rfl ?_ | refine OW_geq rfl rfl ?_ | refine OW_eql rfl rfl ?_ | refine OW_neq rfl rfl ?_ | refine OW_not rfl ?_ | refine OW_pickT rfl _ rfl ?_ | refine OW_pickF rfl (.bool _) rfl ?_ | refine OW_pickB rfl rfl rfl ?_ | refine OW_move ?_ | refine OW_assign ?_ | refine OW_pass rfl ?_ | refine OW_take rfl ?_ | refine OW_lenS (by first | with_reducible exact und_bytes | with_reducible exact und_bytess) rfl ?_ | refine OW_convInt (by first | with_reducible exact und_u8 | with_reducible exact und_u64 | with_reducible exact und_int | with_reducible exact und_u32) (by first | with_reducible exact und_u8 | with_reducible exact und_u64 | with_reducible exact und_int | with_reducible exact und_u32) rfl ?_ | refine OW_add rfl rfl ?_ | refine OW_sub rfl rfl ?_ | refine OW_mul rfl rfl ?_ | refine OW_min2 rfl rfl ?_ | refine OW_max2 rfl rfl ?_ | refine OW_neg rfl ?_ | refine CW_block ?_ | refine CW_condT rfl ?_ | refine CW_condF rfl ?_ | refine CW_exit ?_ | refine CW_ret ?_ | refine CW_skip ?_ | refine LW_seq ?_ | refine LW_regC ?_ | refine LW_condC ?_ | refine LW_regF ?_ | refine LW_condF ?_ | refine FW_seq ?_ | refine FW_region (by kernel_rfl) ?_ | refine FW_block ?_ | refine FW_condT rfl ?_ | refine FW_condF rfl ?_ | refine FW_exit ?_ | refine FW_ret ?_ | refine FW_skip ?_ | refine LW_ret ?_ | refine LW_skip ?_ | refine thenE_exit ?_ | refine thenE_ret ?_ | refine inBlockE_normal ?_ | refine inBlockE_same ?_ | refine inBlockE_ret ?_ | refine inBlockE_ne (by rfl) ?_ | refine OW_eqlB (by with_reducible exact und_bool) rfl rfl ?_ | refine OW_neqB (by with_reducible exact und_bool) rfl rfl ?_ | refine OW_idxS (by with_reducible exact und_bytes) one_u8 rfl rfl _ rfl (by omega) ?_ | refine OW_idxS (by with_reducible exact und_bytess) one_bytes rfl rfl _ rfl (by omega) ?_ | refine OW_load1 (by first | with_reducible exact one_u8 | with_reducible exact one_bytes) rfl _ (by assumption) ?_ | (refine OW_isLoad ?_; refine OW_loadBk (by first | with_reducible exact one_u8 | with_reducible exact one_int | with_reducible exact one_str | with_reducible exact one_bytes | with_reducible exact one_fn | with_reducible exact one_fp) rfl (by assumption) _ (by rfl) ?_) | (refine OW_isLoad ?_; refine OW_loadBk (by first | with_reducible exact one_u8 | with_reducible exact one_bytes | with_reducible exact one_bool | with_reducible exact one_int | with_reducible exact one_errno | with_reducible exact one_u32 | with_reducible exact one_u64 | with_reducible exact one_string | with_reducible exact one_fn | with_reducible exact one_fp | with_reducible exact one_int | with_reducible exact one_str | with_reducible exact one_bytes | with_reducible exact one_u8) rfl (by apply_assumption; assumption) _ (by first | assumption | rfl) ?_) | refine OW_load1 (by first | with_reducible exact one_u8 | with_reducible exact one_bytes | with_reducible exact one_bool | with_reducible exact one_int | with_reducible exact one_errno | with_reducible exact one_u32 | with_reducible exact one_u64 | with_reducible exact one_string | with_reducible exact one_fn | with_reducible exact one_fp | with_reducible exact one_int | with_reducible exact one_str | with_reducible exact one_bytes | with_reducible exact one_u8) rfl _ (by apply_assumption; assumption) ?_)
         refine OW_nil ?_
         exact stay_mk _ _ _ _)
    | refine OY_ppass rfl rfl ?_
    | refine OY_qpass rfl rfl ?_
    | (apply OY_ptake _ rfl rfl
       · intro wd
         (first | refine OW_geqTr rfl rfl (by assumption) ?_ | refine OW_geqFa rfl rfl (by assumption) ?_ | refine OW_indexV rfl rfl (by assumption) ?_ | refine OW_fieldBL fldo_S0 rfl ?_ | refine OW_fieldBL fldo_S1 rfl ?_ | refine OW_eqlFn und_fn rfl ?_ | refine OW_eqlFnN und_fn rfl ?_ | refine OW_fieldBL fldo_Q0 rfl ?_ | refine OW_fieldBL fldo_Q1 rfl ?_ | refine OW_fieldBL fldo_Q2 rfl ?_ | refine OW_fieldBL fldo_Q3 rfl ?_ | refine OW_fieldBL fldo_Q4 rfl ?_ | refine OW_fieldBL fldo_Q5 rfl ?_ | refine OW_fieldBL fldo_Q6 rfl ?_ | refine OW_fieldBL fldo_Q7 rfl ?_ | refine OW_fieldBL fldo_Q8 rfl ?_ | refine OW_fieldBL fldo_Q9 rfl ?_ | refine OW_fieldG fldo_G0 rfl ?_ | refine OW_fieldG fldo_G1 rfl ?_ | refine OW_fieldG fldo_G2 rfl ?_ | refine OW_fieldBL fldo_G0 rfl ?_ | refine OW_fieldBL fldo_G1 rfl ?_ | refine OW_fieldBL fldo_G2 rfl ?_ | refine OW_nilCheck rfl ?_ | refine OW_lenL und_string rfl ?_ | refine OW_eqlE rfl rfl ?_ | refine OW_moveV (.int _ _) rfl ?_ | refine OW_moveV (.slice _ _ _) rfl ?_ | refine OW_moveV (.bool _) rfl ?_ | refine OW_moveV (.pointer _) rfl ?_ | refine OW_moveV (.string _) rfl ?_ | refine OW_moveV (.agg _) rfl ?_ | refine OW_moveV (.tuple _) rfl ?_ | refine OW_nil ?_ | refine thenE_normal ?_ | refine CW_seq ?_ | refine CW_region (by kernel_rfl) ?_ | refine OW_assignV (.int _ _) rfl ?_ | refine OW_assignV (.slice _ _ _) rfl ?_ | refine OW_assignV (.bool _) rfl ?_ | refine OW_assignV (.pointer _) rfl ?_ | refine OW_assignV (.string _) rfl ?_ | refine OW_assignV (.agg _) rfl ?_ | refine OW_assignV (.tuple _) rfl ?_ | refine OW_addI rfl rfl (by omega) ?_ | refine OW_subI rfl rfl (by omega) ?_ | refine OW_mulI rfl rfl (by omega) ?_ | refine OW_lss rfl rfl ?_ | refine OW_extract rfl rfl ?_ | refine OW_gtr rfl rfl ?_ | refine OW_leq rfl rfl ?_ | refine OW_geq rfl rfl ?_ | refine OW_eql rfl rfl ?_ | refine OW_neq rfl rfl ?_ | refine OW_not rfl ?_ | refine OW_pickT rfl _ rfl ?_ | refine OW_pickF rfl (.bool _) rfl ?_ | refine OW_pickB rfl rfl rfl ?_ | refine OW_move ?_ | refine OW_assign ?_ | refine OW_pass rfl ?_ | refine OW_take rfl ?_ | refine OW_lenS (by first | with_reducible exact und_bytes | with_reducible exact und_bytess) rfl ?_ | refine OW_convInt (by first | with_reducible exact und_u8 | with_reducible exact und_u64 | with_reducible exact und_int | with_reducible exact und_u32) (by first | with_reducible exact und_u8 | with_reducible exact und_u64 | with_reducible exact und_int | with_reducible exact und_u32) rfl ?_ | refine OW_add rfl rfl ?_ | refine OW_sub rfl rfl ?_ | refine OW_mul rfl rfl ?_ | refine OW_min2 rfl rfl ?_ | refine OW_max2 rfl rfl ?_ | refine OW_neg rfl ?_ | refine CW_block ?_ | refine CW_condT rfl ?_ | refine CW_condF rfl ?_ | refine CW_exit ?_ | refine CW_ret ?_ | refine CW_skip ?_ | refine LW_seq ?_ | refine LW_regC ?_ | refine LW_condC ?_ | refine LW_regF ?_ | refine LW_condF ?_ | refine FW_seq ?_ | refine FW_region (by kernel_rfl) ?_ | refine FW_block ?_ | refine FW_condT rfl ?_ | refine FW_condF rfl ?_ | refine FW_exit ?_ | refine FW_ret ?_ | refine FW_skip ?_ | refine LW_ret ?_ | refine LW_skip ?_ | refine thenE_exit ?_ | refine thenE_ret ?_ | refine inBlockE_normal ?_ | refine inBlockE_same ?_ | refine inBlockE_ret ?_ | refine inBlockE_ne (by rfl) ?_ | refine OW_eqlB (by with_reducible exact und_bool) rfl rfl ?_ | refine OW_neqB (by with_reducible exact und_bool) rfl rfl ?_ | refine OW_idxS (by with_reducible exact und_bytes) one_u8 rfl rfl _ rfl (by omega) ?_ | refine OW_idxS (by with_reducible exact und_bytess) one_bytes rfl rfl _ rfl (by omega) ?_ | refine OW_load1 (by first | with_reducible exact one_u8 | with_reducible exact one_bytes) rfl _ (by assumption) ?_ | (refine OW_isLoad ?_; refine OW_loadBk (by first | with_reducible exact one_u8 | with_reducible exact one_int | with_reducible exact one_str | with_reducible exact one_bytes | with_reducible exact one_fn | with_reducible exact one_fp) rfl (by assumption) _ (by rfl) ?_))
         refine OW_nil ?_
         exact stay_mk _ _ _ _)
    | (apply OY_qtake _ rfl rfl
       · intro wd hwd
         (first | refine OW_geqTr rfl rfl (by assumption) ?_ | refine OW_geqFa rfl rfl (by assumption) ?_ | refine OW_indexV rfl rfl (by assumption) ?_ | refine OW_fieldBL fldo_S0 rfl ?_ | refine OW_fieldBL fldo_S1 rfl ?_ | refine OW_eqlFn und_fn rfl ?_ | refine OW_eqlFnN und_fn rfl ?_ | refine OW_fieldBL fldo_Q0 rfl ?_ | refine OW_fieldBL fldo_Q1 rfl ?_ | refine OW_fieldBL fldo_Q2 rfl ?_ | refine OW_fieldBL fldo_Q3 rfl ?_ | refine OW_fieldBL fldo_Q4 rfl ?_ | refine OW_fieldBL fldo_Q5 rfl ?_ | refine OW_fieldBL fldo_Q6 rfl ?_ | refine OW_fieldBL fldo_Q7 rfl ?_ | refine OW_fieldBL fldo_Q8 rfl ?_ | refine OW_fieldBL fldo_Q9 rfl ?_ | refine OW_fieldG fldo_G0 rfl ?_ | refine OW_fieldG fldo_G1 rfl ?_ | refine OW_fieldG fldo_G2 rfl ?_ | refine OW_fieldBL fldo_G0 rfl ?_ | refine OW_fieldBL fldo_G1 rfl ?_ | refine OW_fieldBL fldo_G2 rfl ?_ | refine OW_nilCheck rfl ?_ | refine OW_lenL und_string rfl ?_ | refine OW_eqlE rfl rfl ?_ | refine OW_moveV (.int _ _) rfl ?_ | refine OW_moveV (.slice _ _ _) rfl ?_ | refine OW_moveV (.bool _) rfl ?_ | refine OW_moveV (.pointer _) rfl ?_ | refine OW_moveV (.string _) rfl ?_ | refine OW_moveV (.agg _) rfl ?_ | refine OW_moveV (.tuple _) rfl ?_ | refine OW_nil ?_ | refine thenE_normal ?_ | refine CW_seq ?_ | refine CW_region (by kernel_rfl) ?_ | refine OW_assignV (.int _ _) rfl ?_ | refine OW_assignV (.slice _ _ _) rfl ?_ | refine OW_assignV (.bool _) rfl ?_ | refine OW_assignV (.pointer _) rfl ?_ | refine OW_assignV (.string _) rfl ?_ | refine OW_assignV (.agg _) rfl ?_ | refine OW_assignV (.tuple _) rfl ?_ | refine OW_addI rfl rfl (by omega) ?_ | refine OW_subI rfl rfl (by omega) ?_ | refine OW_mulI rfl rfl (by omega) ?_ | refine OW_lss rfl rfl ?_ | refine OW_extract rfl rfl ?_ | refine OW_gtr rfl rfl ?_ | refine OW_leq rfl rfl ?_ | refine OW_geq rfl rfl ?_ | refine OW_eql rfl rfl ?_ | refine OW_neq rfl rfl ?_ | refine OW_not rfl ?_ | refine OW_pickT rfl _ rfl ?_ | refine OW_pickF rfl (.bool _) rfl ?_ | refine OW_pickB rfl rfl rfl ?_ | refine OW_move ?_ | refine OW_assign ?_ | refine OW_pass rfl ?_ | refine OW_take rfl ?_ | refine OW_lenS (by first | with_reducible exact und_bytes | with_reducible exact und_bytess) rfl ?_ | refine OW_convInt (by first | with_reducible exact und_u8 | with_reducible exact und_u64 | with_reducible exact und_int | with_reducible exact und_u32) (by first | with_reducible exact und_u8 | with_reducible exact und_u64 | with_reducible exact und_int | with_reducible exact und_u32) rfl ?_ | refine OW_add rfl rfl ?_ | refine OW_sub rfl rfl ?_ | refine OW_mul rfl rfl ?_ | refine OW_min2 rfl rfl ?_ | refine OW_max2 rfl rfl ?_ | refine OW_neg rfl ?_ | refine CW_block ?_ | refine CW_condT rfl ?_ | refine CW_condF rfl ?_ | refine CW_exit ?_ | refine CW_ret ?_ | refine CW_skip ?_ | refine LW_seq ?_ | refine LW_regC ?_ | refine LW_condC ?_ | refine LW_regF ?_ | refine LW_condF ?_ | refine FW_seq ?_ | refine FW_region (by kernel_rfl) ?_ | refine FW_block ?_ | refine FW_condT rfl ?_ | refine FW_condF rfl ?_ | refine FW_exit ?_ | refine FW_ret ?_ | refine FW_skip ?_ | refine LW_ret ?_ | refine LW_skip ?_ | refine thenE_exit ?_ | refine thenE_ret ?_ | refine inBlockE_normal ?_ | refine inBlockE_same ?_ | refine inBlockE_ret ?_ | refine inBlockE_ne (by rfl) ?_ | refine OW_eqlB (by with_reducible exact und_bool) rfl rfl ?_ | refine OW_neqB (by with_reducible exact und_bool) rfl rfl ?_ | refine OW_idxS (by with_reducible exact und_bytes) one_u8 rfl rfl _ rfl (by omega) ?_ | refine OW_idxS (by with_reducible exact und_bytess) one_bytes rfl rfl _ rfl (by omega) ?_ | refine OW_load1 (by first | with_reducible exact one_u8 | with_reducible exact one_bytes) rfl _ (by assumption) ?_ | (refine OW_isLoad ?_; refine OW_loadBk (by first | with_reducible exact one_u8 | with_reducible exact one_int | with_reducible exact one_str | with_reducible exact one_bytes | with_reducible exact one_fn | with_reducible exact one_fp) rfl (by assumption) _ (by rfl) ?_) | (refine OW_isLoad ?_; refine OW_loadBk (by first | with_reducible exact one_u8 | with_reducible exact one_bytes | with_reducible exact one_bool | with_reducible exact one_int | with_reducible exact one_errno | with_reducible exact one_u32 | with_reducible exact one_u64 | with_reducible exact one_string | with_reducible exact one_fn | with_reducible exact one_fp | with_reducible exact one_int | with_reducible exact one_str | with_reducible exact one_bytes | with_reducible exact one_u8) rfl (by apply_assumption; assumption) _ (by first | assumption | rfl) ?_) | refine OW_load1 (by first | with_reducible exact one_u8 | with_reducible exact one_bytes | with_reducible exact one_bool | with_reducible exact one_int | with_reducible exact one_errno | with_reducible exact one_u32 | with_reducible exact one_u64 | with_reducible exact one_string | with_reducible exact one_fn | with_reducible exact one_fp | with_reducible exact one_int | with_reducible exact one_str | with_reducible exact one_bytes | with_reducible exact one_u8) rfl _ (by apply_assumption; assumption) ?_)
         refine OW_nil ?_
         exact stay_mk _ _ _ _)
    | refine OY_a (actY_of rfl ?_)
    | refine OY_d (actY_of rfl ?_)
    | refine OY_a (actY_pass rfl rfl ?_)
    | refine OY_d (actY_pass rfl rfl ?_)
    | refine OY_a (actY_take rfl rfl ?_)
    | refine OY_d (actY_take rfl rfl ?_))
  exact hEnd.out) (k : B) : A := h ⟨k⟩
structure FnT (P : Program) (t : TypeId) : Prop where
  und : ∃ a b c, P.underlying t = some (.func a b c)
theorem und_fn : FnT Try.prog 40 := ⟨_, _, _, Try.underlying40⟩
theorem run_equalIn_fn {P : Program} {t : TypeId} {a b c} (n : Nat) (ht : P.underlying t = some (.func a b c)) (w : World) (f : Fn) (us vs : Array Value) : (Op.equalIn (n + 1) t (.func f us vs) .nilFunc).run P w = .ok false w := by
  simp [Op.equalIn, run_underlying ht]
theorem run_equalIn_fnN {P : Program} {t : TypeId} {a b c} (n : Nat) (ht : P.underlying t = some (.func a b c)) (w : World) : (Op.equalIn (n + 1) t .nilFunc .nilFunc).run P w = .ok true w := by
  simp [Op.equalIn, run_underlying ht]
theorem one_fp : OneT Try.prog 102 := ⟨.nilFunc, 8, by kernel_rfl, rfl, by kernel_rfl⟩
theorem fldo_S0 : FldO Try.prog 104 0 0 := ⟨fun w a => by kernel_rfl⟩
theorem fldo_S1 : FldO Try.prog 104 1 1 := ⟨fun w a => by kernel_rfl⟩
theorem agg_Shape : AggT Try.prog 104 2 [.nilFunc, .nilFunc] := ⟨⟨_, Try.underlying104, rfl⟩, by kernel_rfl, fun w => by kernel_rfl⟩
section
variable {P : Program} {ops : Array Oper} {Q : Exit → (Nat → Value) → World → Prop} {rest : List Oper} {e : Nat → Value} {w : World} {d : Tmp} {ty : TypeId} {pos : String} {aft : Array Edge}
theorem OW_geqTr {x y : Operand} {t t' : TypeId} {k : IntKind} {a b : Int} (hx : ev e x = .int k a) (hy : ev e y = .int k b) (hab : b ≤ a) (h : OW P ops Q rest (upd e d (.bool true)) w) : OW P ops Q (⟨some d, .binOp .geq t x y t', ty, pos, aft, none⟩ :: rest) e w := by
  refine OW_geq hx hy ?_
  rw [decide_eq_true hab]
  exact h
theorem OW_geqFa {x y : Operand} {t t' : TypeId} {k : IntKind} {a b : Int} (hx : ev e x = .int k a) (hy : ev e y = .int k b) (hab : ¬ b ≤ a) (h : OW P ops Q rest (upd e d (.bool false)) w) : OW P ops Q (⟨some d, .binOp .geq t x y t', ty, pos, aft, none⟩ :: rest) e w := by
  refine OW_geq hx hy ?_
  rw [decide_eq_false hab]
  exact h
theorem OW_indexV {x y : Operand} {t : TypeId} {X Y v : Value} (hx : ev e x = X) (hy : ev e y = Y) (hr : ∀ w, (Instr.index t X Y).run P w = .ok v w) (h : OW P ops Q rest (upd e d v) w) : OW P ops Q (⟨some d, .index t x y, ty, pos, aft, none⟩ :: rest) e w := by
  refine OW_val _ rfl ?_ h
  simp only [execOp, hx, hy, Sem.run_bind, hr]
  rfl
theorem OW_eqlFn {x : Operand} {t t' : TypeId} {f : Fn} {us vs : Array Value} (ht : FnT P t) (hx : ev e x = .func f us vs) (h : OW P ops Q rest (upd e d (.bool false)) w) : OW P ops Q (⟨some d, .binOp .eql t x (.const .nilFunc) t', ty, pos, aft, none⟩ :: rest) e w := by
  refine OW_val (.bool false) rfl ?_ h
  obtain ⟨a, b, c, ht⟩ := ht.und
  have hr : (Op.equal t (.func f us vs) .nilFunc).run P w = .ok false w := by
    exact run_equalIn_fn 9999 ht w f us vs
  have h2 : (binOp .eql t (.func f us vs) .nilFunc).run P w = .ok (.bool false) w := by
    show Sem.run P (Op.equal t (.func f us vs) .nilFunc >>= fun r => pure (Value.bool r)) w = _
    rw [Sem.run_bind, hr]; rfl
  have hcn : ev e (.const .nilFunc) = .nilFunc := rfl
  simp only [execOp, hx, hcn, eqGuard, Sem.run_bind]
  show (((Sem.run P (pure ()) w).andThen fun a w' => Sem.run P (binOp BinOp.eql t _ _) w').andThen fun a w' => Sem.run P (pure (Next.value a)) w') = _
  rw [Sem.run_pure, Result.andThen_ok, h2]; rfl
theorem OW_eqlFnN {x : Operand} {t t' : TypeId} (ht : FnT P t) (hx : ev e x = .nilFunc) (h : OW P ops Q rest (upd e d (.bool true)) w) : OW P ops Q (⟨some d, .binOp .eql t x (.const .nilFunc) t', ty, pos, aft, none⟩ :: rest) e w := by
  refine OW_val (.bool true) rfl ?_ h
  obtain ⟨a, b, c, ht⟩ := ht.und
  have hr : (Op.equal t .nilFunc .nilFunc).run P w = .ok true w := by
    exact run_equalIn_fnN 9999 ht w
  have h2 : (binOp .eql t .nilFunc .nilFunc).run P w = .ok (.bool true) w := by
    show Sem.run P (Op.equal t .nilFunc .nilFunc >>= fun r => pure (Value.bool r)) w = _
    rw [Sem.run_bind, hr]; rfl
  have hcn : ev e (.const .nilFunc) = .nilFunc := rfl
  simp only [execOp, hx, hcn, eqGuard, Sem.run_bind]
  show (((Sem.run P (pure ()) w).andThen fun a w' => Sem.run P (binOp BinOp.eql t _ _) w').andThen fun a w' => Sem.run P (pure (Next.value a)) w') = _
  rw [Sem.run_pure, Result.andThen_ok, h2]; rfl
end
/-- The cells of all shapes; what value is stands in block g. -/
def shpC (g : Nat) : List Value := [.nilFunc, .nilFunc, .func (.func 98) #[] #[], .func (.func 103) #[] #[], .func (.func 97) #[] #[], .func (.func 104) #[] #[], .func (.func 105) #[] #[.pointer (some ⟨g, 0, none⟩)], .func (.func 106) #[] #[], .func (.func 98) #[] #[], .func (.func 103) #[] #[], .func (.func 107) #[] #[], .func (.func 108) #[] #[], .func (.func 99) #[] #[], .func (.func 102) #[] #[], .func (.func 99) #[] #[], .func (.func 102) #[] #[], .func (.func 109) #[] #[], .func (.func 111) #[] #[], .func (.func 112) #[] #[], .func (.func 113) #[] #[], .func (.func 114) #[] #[], .func (.func 115) #[] #[]]
theorem agg_Shapes : AggT Try.prog 105 22 [.nilFunc, .nilFunc, .nilFunc, .nilFunc, .nilFunc, .nilFunc, .nilFunc, .nilFunc, .nilFunc, .nilFunc, .nilFunc, .nilFunc, .nilFunc, .nilFunc, .nilFunc, .nilFunc, .nilFunc, .nilFunc, .nilFunc, .nilFunc, .nilFunc, .nilFunc] := ⟨⟨_, Try.underlying105, rfl⟩, by kernel_rfl, fun w => by kernel_rfl⟩
theorem bld_S (g : Nat) : ∀ w, (Instr.build 105 [(1, .agg [.func (.func 98) #[] #[], .func (.func 103) #[] #[]].toArray), (4, .agg [.func (.func 98) #[] #[], .func (.func 103) #[] #[]].toArray), (6, .agg [.func (.func 99) #[] #[], .func (.func 102) #[] #[]].toArray), (7, .agg [.func (.func 99) #[] #[], .func (.func 102) #[] #[]].toArray), (2, .agg [.func (.func 97) #[] #[], .func (.func 104) #[] #[]].toArray), (3, .agg [.func (.func 105) #[] #[.pointer (some ⟨g, 0, none⟩)], .func (.func 106) #[] #[]].toArray), (5, .agg [.func (.func 107) #[] #[], .func (.func 108) #[] #[]].toArray), (8, .agg [.func (.func 109) #[] #[], .func (.func 111) #[] #[]].toArray), (9, .agg [.func (.func 112) #[] #[], .func (.func 113) #[] #[]].toArray), (10, .agg [.func (.func 114) #[] #[], .func (.func 115) #[] #[]].toArray)].toArray).run Try.prog w = .ok (.agg (shpC g).toArray) w := fun w => by kernel_rfl
theorem bld_s6 : ∀ w, (Instr.build 104 [(0, .func (.func 99) #[] #[]), (1, .func (.func 102) #[] #[])].toArray).run Try.prog w = .ok (.agg [.func (.func 99) #[] #[], .func (.func 102) #[] #[]].toArray) w := fun w => by kernel_rfl
theorem bld_s1 : ∀ w, (Instr.build 104 [(0, .func (.func 98) #[] #[]), (1, .func (.func 103) #[] #[])].toArray).run Try.prog w = .ok (.agg [.func (.func 98) #[] #[], .func (.func 103) #[] #[]].toArray) w := fun w => by kernel_rfl
theorem bld_s5 : ∀ w, (Instr.build 104 [(0, .func (.func 107) #[] #[]), (1, .func (.func 108) #[] #[])].toArray).run Try.prog w = .ok (.agg [.func (.func 107) #[] #[], .func (.func 108) #[] #[]].toArray) w := fun w => by kernel_rfl
theorem bld_s8 : ∀ w, (Instr.build 104 [(0, .func (.func 109) #[] #[]), (1, .func (.func 111) #[] #[])].toArray).run Try.prog w = .ok (.agg [.func (.func 109) #[] #[], .func (.func 111) #[] #[]].toArray) w := fun w => by kernel_rfl
theorem bld_s9 : ∀ w, (Instr.build 104 [(0, .func (.func 112) #[] #[]), (1, .func (.func 113) #[] #[])].toArray).run Try.prog w = .ok (.agg [.func (.func 112) #[] #[], .func (.func 113) #[] #[]].toArray) w := fun w => by kernel_rfl
theorem bld_s10 : ∀ w, (Instr.build 104 [(0, .func (.func 114) #[] #[]), (1, .func (.func 115) #[] #[])].toArray).run Try.prog w = .ok (.agg [.func (.func 114) #[] #[], .func (.func 115) #[] #[]].toArray) w := fun w => by kernel_rfl
theorem bld_s2 (g : Nat) : ∀ w, (Instr.build 104 [(0, .func (.func 97) #[] #[]), (1, .func (.func 104) #[] #[])].toArray).run Try.prog w = .ok (.agg [.func (.func 97) #[] #[], .func (.func 104) #[] #[]].toArray) w := fun w => by kernel_rfl
theorem bld_s3 (g : Nat) : ∀ w, (Instr.build 104 [(0, .func (.func 105) #[] #[.pointer (some ⟨g, 0, none⟩)]), (1, .func (.func 106) #[] #[])].toArray).run Try.prog w = .ok (.agg [.func (.func 105) #[] #[.pointer (some ⟨g, 0, none⟩)], .func (.func 106) #[] #[]].toArray) w := fun w => by kernel_rfl
theorem shpC_one (g : Nat) : ∀ v ∈ shpC g, v.oneCell' = true := by
  intro v hv
  have : (shpC g).all (fun v => v.oneCell') = true := rfl
  exact List.all_eq_true.1 this v hv
set_option maxHeartbeats 8000000 in
theorem shapes_any (w : World) : Calls Try.prog 65 #[] w (fun en w' => ∃ g, en = .returned (.agg (shpC g).toArray) ∧ Ext w w' ∧ w'.cell? ⟨g, 0, none⟩ = some (.func (.func 97) #[] #[]) ∧ w.heap.size ≤ g) := by
  refine calls_of_CW Try.func65 rfl (by simp [Try.ntmps65]) ?_
  rw [Try.ntmps65]
  refine go_ReqN (k := ?_)
  refine OW_allocA agg_Shapes ?_
  intro w1 g1 hb1 hg1 hl1 hx1
  refine go_ReqN (k := ?_)
  refine OW_alloc1 .nilFunc (fun w => by kernel_rfl) ?_
  intro w2 g2 hb2 hg2 hl2 hx2
  refine go_ReqN (k := ?_)
  refine OW_storeB one_fn rfl (.func (.func 97) #[] #[]) rfl rfl hb2 (by decide) ?_
  intro w3 hb3 hr3
  have hk3 : Keeps w2 w3 (· = g2) := Keeps.of_only hr3 rfl
  have hx23 : Ext w1 w3 := hk3.ext hx2 (fun j hj => by have hj : j = g2 := hj; omega)
  have hb3 : Blk w3 g2 40 #[.func (.func 97) #[] #[]] := hb3
  replace hb1 := hb1.ext hx23
  have hx03 := hx1.trans' hx23
  clear hb2 hr3 hk3
  refine go_ReqN (k := ?_)
  refine OW_build _ _ bld_s6 rfl ?_
  refine go_ReqN (k := ?_)
  refine OW_allocA agg_Shape ?_
  intro w4 g4 hb4 hg4 hl4 hx4
  refine go_ReqN (k := ?_)
  refine OW_storeA agg_Shape rfl [.func (.func 99) #[] #[], .func (.func 102) #[] #[]] rfl rfl hb4 (by kernel_rfl) (by intro v hv; simp only [List.mem_cons, List.not_mem_nil, or_false] at hv; rcases hv with rfl | rfl <;> rfl) ?_
  intro w5 hb5 hr5
  have hx35 : Ext w3 w5 := (Keeps.of_only hr5 (S := (· = g4)) rfl).ext hx4 (fun j hj => by have hj : j = g4 := hj; omega)
  clear hb4 hr5
  refine go_ReqN (k := ?_)
  refine OW_build _ _ bld_s1 rfl ?_
  refine go_ReqN (k := ?_)
  refine OW_allocA agg_Shape ?_
  intro w6 g6 hb6 hg6 hl6 hx6
  refine go_ReqN (k := ?_)
  refine OW_storeA agg_Shape rfl [.func (.func 98) #[] #[], .func (.func 103) #[] #[]] rfl rfl hb6 (by kernel_rfl) (by intro v hv; simp only [List.mem_cons, List.not_mem_nil, or_false] at hv; rcases hv with rfl | rfl <;> rfl) ?_
  intro w7 hb7 hr7
  have hx57 : Ext w5 w7 := (Keeps.of_only hr7 (S := (· = g6)) rfl).ext hx6 (fun j hj => by have hj : j = g6 := hj; omega)
  have hx37 := hx35.trans' hx57
  have hx07 := hx03.trans' hx37
  replace hb1 := hb1.ext hx37
  replace hb3 := hb3.ext hx37
  replace hb5 := hb5.ext hx57
  clear hb6 hr7
  refine go_ReqN (k := ?_)
  refine OW_loadX agg_Shape rfl [.func (.func 98) #[] #[], .func (.func 103) #[] #[]] rfl hb7.atL ?_
  refine go_ReqN (k := ?_)
  refine OW_loadX agg_Shape rfl [.func (.func 98) #[] #[], .func (.func 103) #[] #[]] rfl hb7.atL ?_
  refine go_ReqN (k := ?_)
  refine OW_loadX agg_Shape rfl [.func (.func 99) #[] #[], .func (.func 102) #[] #[]] rfl hb5.atL ?_
  refine go_ReqN (k := ?_)
  refine OW_loadX agg_Shape rfl [.func (.func 99) #[] #[], .func (.func 102) #[] #[]] rfl hb5.atL ?_
  refine go_ReqN (k := ?_)
  refine OW_build _ _ (bld_s2 g2) rfl ?_
  refine OW_mkFunc [.pointer (some ⟨g2, 0, none⟩)] rfl ?_
  refine OW_build _ _ (bld_s3 g2) rfl ?_
  refine OW_build _ _ bld_s5 rfl ?_
  refine OW_build _ _ bld_s8 rfl ?_
  refine OW_build _ _ bld_s9 rfl ?_
  refine OW_build _ _ bld_s10 rfl ?_
  refine OW_build _ _ (bld_S g2) rfl ?_
  refine OW_storeA agg_Shapes rfl (shpC g2) rfl rfl hb1 (by kernel_rfl) (shpC_one g2) ?_
  intro w8 hb8 hr8
  have hk8 : Keeps w7 w8 (· = g1) := Keeps.of_only hr8 rfl
  have hx08 : Ext w w8 := hk8.ext hx07 (fun j hj => by have hj : j = g1 := hj; omega)
  have hc := hk8.cell (hb3.cell 0) (by show ¬ g2 = g1; omega)
  refine go_ReqN (k := ?_)
  exact bodyE_retc rfl agg_Shapes rfl (shpC g2) rfl (Blk.range hb8) ⟨g2, rfl, hx08, hc, by have := hx1.size; omega⟩
/-- A value that is a function, and what a call of it comes to. -/
def CanCall (F : Value) (args : List Value) (w : World) (R : Ending → World → Prop) : Prop := ∃ f fn caps, F = .func (.func f) #[] (List.toArray caps) ∧ Try.prog.funcs[f]? = some fn ∧ (fn.name == "runtime.NumGoroutine") = false ∧ fn.body.isNone = false ∧ Calls Try.prog f (args ++ caps).toArray w R
section
variable {ops : Array Oper} {Q : Exit → (Nat → Value) → World → Prop} {rest : List Oper} {e : Nat → Value} {w : World} {d : Tmp} {ty : TypeId} {pos : String} {aft : Array Edge}
theorem OW_callG {F : Value} {x : Operand} {args : List Operand} {args' : List Value} {tys : Array TypeId} {dst : Option Tmp} {R : Ending → World → Prop} (hx : ev e x = F) (hc : CanCall F args' w R) (ha : args.map (ev e) = args') (h : ∀ en w', R en w' → ∃ v, en = .returned v ∧ OW Try.prog ops Q rest (put e dst v) w') :
    OW Try.prog ops Q (⟨dst, .call { callee := .value x, args := args.toArray, argTypes := tys }, ty, pos, aft, none⟩ :: rest) e w := by
  obtain ⟨f, fn, caps, hF, h1, h2, h3, h4⟩ := hc
  exact OW_callF h1 h2 h3 (hx.trans hF) h4 ha h
end
/-- What stands for an operation: whether a request's own fields are fine, what is left without them. -/
inductive ShpF (w : World) (q : QR) (F L : Value) : Prop
  | none (h : mayQ q = false) (hF : F = .nilFunc)
  | some (fine : Bool) (q' : QR) (hi : I64 q'.expiry ∧ I64 q'.serial) (hm : mayO q = (fine && bareQ q')) (hF : ∃ f caps, F = .func f #[] caps) (h1 : ∀ w' A c, Ext w w' → CanCall F [.agg (qcells q (.slice A q.token.length c)).toArray] w' (RetV w' (.bool fine)))
    (h2 : ∀ w' g v, Blk w' g 39 (qcells q v).toArray → CanCall L [.pointer (some ⟨g, 0, none⟩)] w' (fun en w2 => en = .returned (.tuple #[]) ∧ Blk w2 g 39 (qcells q' v).toArray ∧ Keeps w' w2 (· = g))) (ht : q'.token = q.token)
theorem op_cases {a : UInt8} (h : ¬ (11 : Int) ≤ IntKind.i64.wrap (a.toNat : Int)) : a = 0 ∨ a = 1 ∨ a = 2 ∨ a = 3 ∨ a = 4 ∨ a = 5 ∨ a = 6 ∨ a = 7 ∨ a = 8 ∨ a = 9 ∨ a = 10 := by
  rw [i64_u8] at h
  have e : ∀ k : Nat, k < 256 → a.toNat = k → a = UInt8.ofNat k := fun k hk he => UInt8.toNat_inj.1 (by rw [UInt8.toNat_ofNat']; omega)
  have : a.toNat = 0 ∨ a.toNat = 1 ∨ a.toNat = 2 ∨ a.toNat = 3 ∨ a.toNat = 4 ∨ a.toNat = 5 ∨ a.toNat = 6 ∨ a.toNat = 7 ∨ a.toNat = 8 ∨ a.toNat = 9 ∨ a.toNat = 10 := by omega
  rcases this with h | h | h | h | h | h | h | h | h | h | h
  · exact .inl (e 0 (by decide) h)
  · exact .inr (.inl (e 1 (by decide) h))
  · exact .inr (.inr (.inl (e 2 (by decide) h)))
  · exact .inr (.inr (.inr (.inl (e 3 (by decide) h))))
  · exact .inr (.inr (.inr (.inr (.inl (e 4 (by decide) h)))))
  · exact .inr (.inr (.inr (.inr (.inr (.inl (e 5 (by decide) h))))))
  · exact .inr (.inr (.inr (.inr (.inr (.inr (.inl (e 6 (by decide) h)))))))
  · exact .inr (.inr (.inr (.inr (.inr (.inr (.inr (.inl (e 7 (by decide) h))))))))
  · exact .inr (.inr (.inr (.inr (.inr (.inr (.inr (.inr (.inl (e 8 (by decide) h)))))))))
  · exact .inr (.inr (.inr (.inr (.inr (.inr (.inr (.inr (.inr (.inl (e 9 (by decide) h))))))))))
  · exact .inr (.inr (.inr (.inr (.inr (.inr (.inr (.inr (.inr (.inr (e 10 (by decide) h))))))))))
theorem may_sp1 {q : QR} (ho : q.op = 1) : mayO q = (keyOk q && bareQ ({ q with key := [] })) := by
  unfold mayO bareQ grant0 room0
  rw [ho]
  simp only [beq_self_eq_true, Bool.true_and, Bool.and_true, Bool.and_assoc, if_true, if_false, show ((1 : UInt8) = 1 ∨ (1 : UInt8) = 4) = True from by decide, show ((1 : UInt8) = 6 ∨ (1 : UInt8) = 7) = False from by decide, show ((1 : UInt8) = 2) = False from by decide, show ((1 : UInt8) = 3) = False from by decide, show ((1 : UInt8) = 5) = False from by decide, show ((1 : UInt8) = 8) = False from by decide, show ((1 : UInt8) = 9) = False from by decide, show ((1 : UInt8) = 10) = False from by decide]
  try ac_rfl
theorem may_sp2 {q : QR} (ho : q.op = 2) : mayO q = (fine1 q && bareQ ({ q with key := [], value := [] })) := by
  unfold mayO bareQ grant0 room0 fine1
  rw [ho]
  simp only [beq_self_eq_true, Bool.true_and, Bool.and_true, Bool.and_assoc, if_true, if_false, show ((2 : UInt8) = 1 ∨ (2 : UInt8) = 4) = False from by decide, show ((2 : UInt8) = 6 ∨ (2 : UInt8) = 7) = False from by decide, show ((2 : UInt8) = 2) = True from by decide, show ((2 : UInt8) = 3) = False from by decide, show ((2 : UInt8) = 5) = False from by decide, show ((2 : UInt8) = 8) = False from by decide, show ((2 : UInt8) = 9) = False from by decide, show ((2 : UInt8) = 10) = False from by decide]
  try ac_rfl
theorem may_sp3 {q : QR} (ho : q.op = 3) : mayO q = (fine6 q && bareQ ({ q with key := [], value := [], old := [] })) := by
  unfold mayO bareQ grant0 room0 fine6 fine1
  rw [ho]
  simp only [beq_self_eq_true, Bool.true_and, Bool.and_true, Bool.and_assoc, if_true, if_false, show ((3 : UInt8) = 1 ∨ (3 : UInt8) = 4) = False from by decide, show ((3 : UInt8) = 6 ∨ (3 : UInt8) = 7) = False from by decide, show ((3 : UInt8) = 2) = False from by decide, show ((3 : UInt8) = 3) = True from by decide, show ((3 : UInt8) = 5) = False from by decide, show ((3 : UInt8) = 8) = False from by decide, show ((3 : UInt8) = 9) = False from by decide, show ((3 : UInt8) = 10) = False from by decide]
  try ac_rfl
theorem may_sp4 {q : QR} (ho : q.op = 4) : mayO q = (keyOk q && bareQ ({ q with key := [] })) := by
  unfold mayO bareQ grant0 room0
  rw [ho]
  simp only [beq_self_eq_true, Bool.true_and, Bool.and_true, Bool.and_assoc, if_true, if_false, show ((4 : UInt8) = 1 ∨ (4 : UInt8) = 4) = True from by decide, show ((4 : UInt8) = 6 ∨ (4 : UInt8) = 7) = False from by decide, show ((4 : UInt8) = 2) = False from by decide, show ((4 : UInt8) = 3) = False from by decide, show ((4 : UInt8) = 5) = False from by decide, show ((4 : UInt8) = 8) = False from by decide, show ((4 : UInt8) = 9) = False from by decide, show ((4 : UInt8) = 10) = False from by decide]
  try ac_rfl
theorem may_sp5 {q : QR} (ho : q.op = 5) : mayO q = (fine8 q && bareQ ({ q with key := [], n := 0 })) := by
  unfold mayO bareQ grant0 room0 fine8
  rw [ho]
  simp only [beq_self_eq_true, Bool.true_and, Bool.and_true, Bool.and_assoc, if_true, if_false, show ((5 : UInt8) = 1 ∨ (5 : UInt8) = 4) = False from by decide, show ((5 : UInt8) = 6 ∨ (5 : UInt8) = 7) = False from by decide, show ((5 : UInt8) = 2) = False from by decide, show ((5 : UInt8) = 3) = False from by decide, show ((5 : UInt8) = 5) = True from by decide, show ((5 : UInt8) = 8) = False from by decide, show ((5 : UInt8) = 9) = False from by decide, show ((5 : UInt8) = 10) = False from by decide]
  try ac_rfl
theorem may_sp6 {q : QR} (ho : q.op = 6) : mayO q = (fine2 q && bareQ ({ q with ten := 0, keys := 0, space := 0 })) := by
  unfold mayO bareQ grant0 room0 fine2
  rw [ho]
  simp only [beq_self_eq_true, Bool.true_and, Bool.and_true, Bool.and_assoc, if_true, if_false, show ((6 : UInt8) = 1 ∨ (6 : UInt8) = 4) = False from by decide, show ((6 : UInt8) = 6 ∨ (6 : UInt8) = 7) = True from by decide, show ((6 : UInt8) = 2) = False from by decide, show ((6 : UInt8) = 3) = False from by decide, show ((6 : UInt8) = 5) = False from by decide, show ((6 : UInt8) = 8) = False from by decide, show ((6 : UInt8) = 9) = False from by decide, show ((6 : UInt8) = 10) = False from by decide]
  try ac_rfl
theorem may_sp7 {q : QR} (ho : q.op = 7) : mayO q = (fine2 q && bareQ ({ q with ten := 0, keys := 0, space := 0 })) := by
  unfold mayO bareQ grant0 room0 fine2
  rw [ho]
  simp only [beq_self_eq_true, Bool.true_and, Bool.and_true, Bool.and_assoc, if_true, if_false, show ((7 : UInt8) = 1 ∨ (7 : UInt8) = 4) = False from by decide, show ((7 : UInt8) = 6 ∨ (7 : UInt8) = 7) = True from by decide, show ((7 : UInt8) = 2) = False from by decide, show ((7 : UInt8) = 3) = False from by decide, show ((7 : UInt8) = 5) = False from by decide, show ((7 : UInt8) = 8) = False from by decide, show ((7 : UInt8) = 9) = False from by decide, show ((7 : UInt8) = 10) = False from by decide]
  try ac_rfl
theorem may_sp8 {q : QR} (ho : q.op = 8) : mayO q = (fine10 q && bareQ ({ q with ten := 0, rights := 0, expiry := 0, serial := 0 })) := by
  unfold mayO bareQ grant0 room0 fine10
  rw [ho]
  simp only [beq_self_eq_true, Bool.true_and, Bool.and_true, Bool.and_assoc, if_true, if_false, show ((8 : UInt8) = 1 ∨ (8 : UInt8) = 4) = False from by decide, show ((8 : UInt8) = 6 ∨ (8 : UInt8) = 7) = False from by decide, show ((8 : UInt8) = 2) = False from by decide, show ((8 : UInt8) = 3) = False from by decide, show ((8 : UInt8) = 5) = False from by decide, show ((8 : UInt8) = 8) = True from by decide, show ((8 : UInt8) = 9) = False from by decide, show ((8 : UInt8) = 10) = False from by decide]
  try ac_rfl
theorem may_sp9 {q : QR} (ho : q.op = 9) : mayO q = (fine12 q && bareQ ({ q with ten := 0, n := 0 })) := by
  unfold mayO bareQ grant0 room0 fine12
  rw [ho]
  simp only [beq_self_eq_true, Bool.true_and, Bool.and_true, Bool.and_assoc, if_true, if_false, show ((9 : UInt8) = 1 ∨ (9 : UInt8) = 4) = False from by decide, show ((9 : UInt8) = 6 ∨ (9 : UInt8) = 7) = False from by decide, show ((9 : UInt8) = 2) = False from by decide, show ((9 : UInt8) = 3) = False from by decide, show ((9 : UInt8) = 5) = False from by decide, show ((9 : UInt8) = 8) = False from by decide, show ((9 : UInt8) = 9) = True from by decide, show ((9 : UInt8) = 10) = False from by decide]
  try ac_rfl
theorem may_sp10 {q : QR} (ho : q.op = 10) : mayO q = (fine14 q && bareQ ({ q with n := 0 })) := by
  unfold mayO bareQ grant0 room0 fine14
  rw [ho]
  simp only [beq_self_eq_true, Bool.true_and, Bool.and_true, Bool.and_assoc, if_true, if_false, show ((10 : UInt8) = 1 ∨ (10 : UInt8) = 4) = False from by decide, show ((10 : UInt8) = 6 ∨ (10 : UInt8) = 7) = False from by decide, show ((10 : UInt8) = 2) = False from by decide, show ((10 : UInt8) = 3) = False from by decide, show ((10 : UInt8) = 5) = False from by decide, show ((10 : UInt8) = 8) = False from by decide, show ((10 : UInt8) = 9) = False from by decide, show ((10 : UInt8) = 10) = True from by decide]
  try ac_rfl
theorem idx_0 (g : Nat) (w : World) : (Instr.index 105 (.agg (shpC g).toArray) (bv 0)).run Try.prog w = .ok (.agg [.nilFunc, .nilFunc].toArray) w := by kernel_rfl
theorem idx_1 (g : Nat) (w : World) : (Instr.index 105 (.agg (shpC g).toArray) (bv 1)).run Try.prog w = .ok (.agg [.func (.func 98) #[] #[], .func (.func 103) #[] #[]].toArray) w := by kernel_rfl
theorem idx_2 (g : Nat) (w : World) : (Instr.index 105 (.agg (shpC g).toArray) (bv 2)).run Try.prog w = .ok (.agg [.func (.func 97) #[] #[], .func (.func 104) #[] #[]].toArray) w := by kernel_rfl
theorem idx_3 (g : Nat) (w : World) : (Instr.index 105 (.agg (shpC g).toArray) (bv 3)).run Try.prog w = .ok (.agg [.func (.func 105) #[] #[.pointer (some ⟨g, 0, none⟩)], .func (.func 106) #[] #[]].toArray) w := by kernel_rfl
theorem idx_4 (g : Nat) (w : World) : (Instr.index 105 (.agg (shpC g).toArray) (bv 4)).run Try.prog w = .ok (.agg [.func (.func 98) #[] #[], .func (.func 103) #[] #[]].toArray) w := by kernel_rfl
theorem idx_5 (g : Nat) (w : World) : (Instr.index 105 (.agg (shpC g).toArray) (bv 5)).run Try.prog w = .ok (.agg [.func (.func 107) #[] #[], .func (.func 108) #[] #[]].toArray) w := by kernel_rfl
theorem idx_6 (g : Nat) (w : World) : (Instr.index 105 (.agg (shpC g).toArray) (bv 6)).run Try.prog w = .ok (.agg [.func (.func 99) #[] #[], .func (.func 102) #[] #[]].toArray) w := by kernel_rfl
theorem idx_7 (g : Nat) (w : World) : (Instr.index 105 (.agg (shpC g).toArray) (bv 7)).run Try.prog w = .ok (.agg [.func (.func 99) #[] #[], .func (.func 102) #[] #[]].toArray) w := by kernel_rfl
theorem idx_8 (g : Nat) (w : World) : (Instr.index 105 (.agg (shpC g).toArray) (bv 8)).run Try.prog w = .ok (.agg [.func (.func 109) #[] #[], .func (.func 111) #[] #[]].toArray) w := by kernel_rfl
theorem idx_9 (g : Nat) (w : World) : (Instr.index 105 (.agg (shpC g).toArray) (bv 9)).run Try.prog w = .ok (.agg [.func (.func 112) #[] #[], .func (.func 113) #[] #[]].toArray) w := by kernel_rfl
theorem idx_10 (g : Nat) (w : World) : (Instr.index 105 (.agg (shpC g).toArray) (bv 10)).run Try.prog w = .ok (.agg [.func (.func 114) #[] #[], .func (.func 115) #[] #[]].toArray) w := by kernel_rfl
theorem shp_at (g : Nat) (q : QR) (hI : I64 q.expiry ∧ I64 q.serial) (ho : ¬ (11 : Int) ≤ IntKind.i64.wrap (q.op.toNat : Int)) : ∃ F L, (∀ w, (Instr.index 105 (.agg (shpC g).toArray) (bv q.op)).run Try.prog w = .ok (.agg [F, L].toArray) w) ∧ F.oneCell' = true ∧ L.oneCell' = true ∧ ∀ w, w.cell? ⟨g, 0, none⟩ = some (.func (.func 97) #[] #[]) → ShpF w q F L := by
  have z0 : I64 0 := by unfold I64; simp
  rcases op_cases ho with h | h | h | h | h | h | h | h | h | h | h
  · refine ⟨.nilFunc, .nilFunc, fun w => by rw [h]; exact idx_0 g w, rfl, rfl, fun _ _ => .none ?_ rfl⟩
    unfold mayQ mayO
    rw [h]
    simp
  · exact ⟨_, _, fun w => by rw [h]; exact idx_1 g w, rfl, rfl, fun w hv => .some (keyOk q) ({ q with key := [] }) hI (may_sp1 h) ⟨_, _, rfl⟩ (fun w' A c hx => ⟨_, _, [], rfl, Try.func98, by kernel_rfl, rfl, key_any w' A c q⟩) (fun w' g v hb => ⟨_, _, [], rfl, Try.func103, by kernel_rfl, rfl, shp4_any w' g q v hb⟩) rfl⟩
  · exact ⟨_, _, fun w => by rw [h]; exact idx_2 g w, rfl, rfl, fun w hv => .some (fine1 q) ({ q with key := [], value := [] }) hI (may_sp2 h) ⟨_, _, rfl⟩ (fun w' A c hx => ⟨_, _, [], rfl, Try.func97, by kernel_rfl, rfl, shp1_any w' A c q⟩) (fun w' g v hb => ⟨_, _, [], rfl, Try.func104, by kernel_rfl, rfl, shp5_any w' g q v hb⟩) rfl⟩
  · exact ⟨_, _, fun w => by rw [h]; exact idx_3 g w, rfl, rfl, fun w hv => .some (fine6 q) ({ q with key := [], value := [], old := [] }) hI (may_sp3 h) ⟨_, _, rfl⟩ (fun w' A c hx => ⟨_, _, [.pointer (some ⟨g, 0, none⟩)], rfl, Try.func105, by kernel_rfl, rfl, shp6_any w' A c q g (hx.cell' hv)⟩) (fun w' g v hb => ⟨_, _, [], rfl, Try.func106, by kernel_rfl, rfl, shp7_any w' g q v hb⟩) rfl⟩
  · exact ⟨_, _, fun w => by rw [h]; exact idx_4 g w, rfl, rfl, fun w hv => .some (keyOk q) ({ q with key := [] }) hI (may_sp4 h) ⟨_, _, rfl⟩ (fun w' A c hx => ⟨_, _, [], rfl, Try.func98, by kernel_rfl, rfl, key_any w' A c q⟩) (fun w' g v hb => ⟨_, _, [], rfl, Try.func103, by kernel_rfl, rfl, shp4_any w' g q v hb⟩) rfl⟩
  · exact ⟨_, _, fun w => by rw [h]; exact idx_5 g w, rfl, rfl, fun w hv => .some (fine8 q) ({ q with key := [], n := 0 }) hI (may_sp5 h) ⟨_, _, rfl⟩ (fun w' A c hx => ⟨_, _, [], rfl, Try.func107, by kernel_rfl, rfl, shp8_any w' A c q⟩) (fun w' g v hb => ⟨_, _, [], rfl, Try.func108, by kernel_rfl, rfl, shp9_any w' g q v hb⟩) rfl⟩
  · exact ⟨_, _, fun w => by rw [h]; exact idx_6 g w, rfl, rfl, fun w hv => .some (fine2 q) ({ q with ten := 0, keys := 0, space := 0 }) hI (may_sp6 h) ⟨_, _, rfl⟩ (fun w' A c hx => ⟨_, _, [], rfl, Try.func99, by kernel_rfl, rfl, shp2_any w' A c q⟩) (fun w' g v hb => ⟨_, _, [], rfl, Try.func102, by kernel_rfl, rfl, shp3_any w' g q v hb⟩) rfl⟩
  · exact ⟨_, _, fun w => by rw [h]; exact idx_7 g w, rfl, rfl, fun w hv => .some (fine2 q) ({ q with ten := 0, keys := 0, space := 0 }) hI (may_sp7 h) ⟨_, _, rfl⟩ (fun w' A c hx => ⟨_, _, [], rfl, Try.func99, by kernel_rfl, rfl, shp2_any w' A c q⟩) (fun w' g v hb => ⟨_, _, [], rfl, Try.func102, by kernel_rfl, rfl, shp3_any w' g q v hb⟩) rfl⟩
  · exact ⟨_, _, fun w => by rw [h]; exact idx_8 g w, rfl, rfl, fun w hv => .some (fine10 q) ({ q with ten := 0, rights := 0, expiry := 0, serial := 0 }) ⟨z0, z0⟩ (may_sp8 h) ⟨_, _, rfl⟩ (fun w' A c hx => ⟨_, _, [], rfl, Try.func109, by kernel_rfl, rfl, shp10_any w' A c q⟩) (fun w' g v hb => ⟨_, _, [], rfl, Try.func111, by kernel_rfl, rfl, shp11_any w' g q v hb⟩) rfl⟩
  · exact ⟨_, _, fun w => by rw [h]; exact idx_9 g w, rfl, rfl, fun w hv => .some (fine12 q) ({ q with ten := 0, n := 0 }) hI (may_sp9 h) ⟨_, _, rfl⟩ (fun w' A c hx => ⟨_, _, [], rfl, Try.func112, by kernel_rfl, rfl, shp12_any w' A c q⟩) (fun w' g v hb => ⟨_, _, [], rfl, Try.func113, by kernel_rfl, rfl, shp13_any w' g q v hb⟩) rfl⟩
  · exact ⟨_, _, fun w => by rw [h]; exact idx_10 g w, rfl, rfl, fun w hv => .some (fine14 q) ({ q with n := 0 }) hI (may_sp10 h) ⟨_, _, rfl⟩ (fun w' A c hx => ⟨_, _, [], rfl, Try.func114, by kernel_rfl, rfl, shp14_any w' A c q⟩) (fun w' g v hb => ⟨_, _, [], rfl, Try.func115, by kernel_rfl, rfl, shp15_any w' g q v hb⟩) rfl⟩
set_option maxHeartbeats 8000000 in
theorem may_any (w : World) (A : Option Addr) (c : Nat) (q : QR) (hI : I64 q.expiry ∧ I64 q.serial) : Calls Try.prog 25 #[.agg (qcells q (.slice A q.token.length c)).toArray] w (RetV w (.bool (mayQ q))) := by
  refine calls_of_CW Try.func25 rfl (by simp [Try.ntmps25]) ?_
  rw [Try.ntmps25]
  refine go_ReqN (k := ?_)
  refine OW_box _ rfl ?_
  intro w1 g hb hg hlt hx1
  have hb1 : Blk w1 g 39 (qcells q (.slice A q.token.length c)).toArray := hb
  clear hb
  by_cases ho : (11 : Int) ≤ IntKind.i64.wrap (q.op.toNat : Int)
  · have hm : mayQ q = false := by
      rw [i64_u8] at ho
      refine may_is0 ?_
      refine ⟨?_, ?_, ?_, ?_, ?_, ?_, ?_, ?_, ?_, ?_⟩ <;> (intro h; rw [h] at ho; exact absurd ho (by decide))
    refine go_ReqN (k := ?_)
    obtain ⟨C, hC⟩ : ∃ C : World → Prop, C = fun v => Ext w1 v := ⟨_, rfl⟩
    have y_hb1 := blkE hC hb1
    refine CW_tree2 [1, 2, 8] (.p 0 (.q 1 (.q 2 (.a 3 (.p 4 (.p 5 (.p 6 (.p 7 (.q 8 (.p 9 (.p 10 (.p 11 .done)))))))))))) (C) (by kernel_rfl) (by kernel_rfl) (by kernel_rfl) ?_ ?_
    · exact inE hC
    intro w2 hx2 h_C
    refine oy_ReqN (k := ?_)
    refine OW_callC Try.func65 (by kernel_rfl) rfl (shapes_any w2) rfl ?_
    rintro en w3 ⟨gv, rfl, hx3, hcv, hgv⟩
    refine ⟨_, rfl, ?_⟩
    first | refine OW_nil (goY_mkE hC (hx2.trans' hx3) ?_) | refine OW_nil (goY_dropE hC (hx2.trans' hx3) ?_)
    refine oy_ReqN (k := ?_)
    refine go_ReqN (k := ?_)
    exact bodyE_ret1 rfl (.bool false) rfl ⟨by rw [hm], hx1.trans' (hx2.trans' hx3)⟩
  refine go_ReqN (k := ?_)
  obtain ⟨C, hC⟩ : ∃ C : World → Prop, C = fun v => Ext w1 v := ⟨_, rfl⟩
  have y_hb1 := blkE hC hb1
  refine CW_tree2 [1, 2, 8] (.p 0 (.q 1 (.q 2 (.a 3 (.p 4 (.p 5 (.p 6 (.p 7 (.q 8 (.p 9 (.p 10 (.p 11 .done)))))))))))) (C) (by kernel_rfl) (by kernel_rfl) (by kernel_rfl) ?_ ?_
  · exact inE hC
  intro w2 hx2 h_C
  refine oy_ReqN (k := ?_)
  refine OW_callC Try.func65 (by kernel_rfl) rfl (shapes_any w2) rfl ?_
  rintro en w3 ⟨gv, rfl, hx3, hcv, hgv⟩
  refine ⟨_, rfl, ?_⟩
  first | refine OW_nil (goY_mkE hC (hx2.trans' hx3) ?_) | refine OW_nil (goY_dropE hC (hx2.trans' hx3) ?_)
  refine oy_ReqN (k := ?_)
  have hx13 := hx2.trans' hx3
  have hx03 := hx1.trans' hx13
  have hb3 := hb1.ext hx13
  clear C hC h_C y_hb1 hb1 hcv
  refine go_ReqN (k := ?_)
  refine CW_cond _ rfl (fun hh => ?_) (fun hh => ?_)
  · have hl := of_decide_eq_true hh
    refine go_ReqN (k := ?_)
    exact bodyE_ret1 rfl (.bool false) rfl ⟨by unfold mayQ; rw [decide_eq_false (by omega)]; rfl, hx03⟩
  have ht : mayQ q = mayO q := by unfold mayQ; rw [decide_eq_true (by have := of_decide_eq_false hh; omega)]; rfl
  clear hh
  refine go_ReqN (k := ?_)
  refine CW_meet (fun e' w' => e' 1 = .pointer (some ⟨g, 0, none⟩) ∧ ∃ gs F L, e' 3 = .pointer (some ⟨gs, 0, none⟩) ∧ Blk w' gs 104 [F, L].toArray ∧ ¬ gs = g ∧ ShpF w' q F L ∧ Ext w3 w') ?_ ?_
  · skip
    obtain ⟨C, hC⟩ : ∃ C : World → Prop, C = fun v => Ext w3 v := ⟨_, rfl⟩
    have y_hb3 := blkE hC hb3
    refine CW_tree2 [2] (.p 1 (.q 2 (Ty.graft (.a2 0 (.p 3 (.a 4 .done)) 4 (.a 0 (.p 3 .done))) (.d 5 .done)))) (C) (by kernel_rfl) (by kernel_rfl) (by kernel_rfl) ?_ ?_
    · exact inE hC
    intro w4 hx4 h_C
    refine oy_ReqN (k := ?_)
    refine OY_a2 (actY_of rfl ?_) (actY_of rfl ?_)
    · refine OW_callC Try.func65 (by kernel_rfl) rfl (shapes_any w4) rfl ?_
      rintro en w5 ⟨gv, rfl, hx5, hcv, hgv⟩
      refine ⟨_, rfl, ?_⟩
      obtain ⟨F, L, hix, hF1, hL1, hS⟩ := shp_at gv q hI ho
      have hy5 := hx4.trans' hx5
      first | refine OW_nil (goY_mkE hC (hy5) ?_) | refine OW_nil (goY_dropE hC (hy5) ?_)
      refine oy_ReqN (k := ?_)
      refine OW_allocA agg_Shape ?_
      intro w6 gs hb6 hg6 hl6 hx6
      have hy6 := hy5.trans' hx6
      first | refine OW_nil (goY_mkE hC (hy6) ?_) | refine OW_nil (goY_dropE hC (hy6) ?_)
      refine oy_ReqN (k := ?_)
      refine OW_storeA agg_Shape rfl [F, L] rfl rfl hb6 (by kernel_rfl) (by intro v hv; simp only [List.mem_cons, List.not_mem_nil, or_false] at hv; rcases hv with rfl | rfl <;> assumption) ?_
      intro w7 hb7 hr7
      have hx57 : Ext w5 w7 := (Keeps.of_only hr7 (S := (· = gs)) rfl).ext hx6 (fun j hj => by have hj : j = gs := hj; omega)
      have hy7 := hy5.trans' hx57
      have hlg := (hb3.ext hy5).lt
      first | refine OW_nil (goY_mkE hC (hy7) ?_) | refine OW_nil (goY_dropE hC (hy7) ?_)
      refine oy_ReqN (k := ?_)
      exact ⟨rfl, rfl, gs, F, L, rfl, hb7, by omega, hS w7 (hx57.cell' hcv), hy7⟩
    · refine OW_allocA agg_Shape ?_
      intro w5 gs hb5 hg5 hl5 hx5
      have hy5 := hx4.trans' hx5
      first | refine OW_nil (goY_mkE hC (hy5) ?_) | refine OW_nil (goY_dropE hC (hy5) ?_)
      refine oy_ReqN (k := ?_)
      refine OW_callC Try.func65 (by kernel_rfl) rfl (shapes_any w5) rfl ?_
      rintro en w6 ⟨gv, rfl, hx6, hcv, hgv⟩
      refine ⟨_, rfl, ?_⟩
      obtain ⟨F, L, hix, hF1, hL1, hS⟩ := shp_at gv q hI ho
      have hy6 := hy5.trans' hx6
      first | refine OW_nil (goY_mkE hC (hy6) ?_) | refine OW_nil (goY_dropE hC (hy6) ?_)
      refine oy_ReqN (k := ?_)
      have hlg := (hb3.ext hx4).lt
      have s34 := hy5.size
      refine OW_storeA agg_Shape rfl [F, L] rfl rfl (hb5.ext hx6) (by kernel_rfl) (by intro v hv; simp only [List.mem_cons, List.not_mem_nil, or_false] at hv; rcases hv with rfl | rfl <;> assumption) ?_
      intro w7 hb7 hr7
      have hK7 : Keeps w6 w7 (· = gs) := Keeps.of_only hr7 rfl
      have hy7 : Ext w3 w7 := hK7.ext hy6 (fun j hj => by have hj : j = gs := hj; have := hx4.size; omega)
      first | refine OW_nil (goY_mkE hC (hy7) ?_) | refine OW_nil (goY_dropE hC (hy7) ?_)
      refine oy_ReqN (k := ?_)
      exact ⟨rfl, rfl, gs, F, L, rfl, hb7, by omega, hS w7 (hK7.cell hcv (by show ¬ gv = gs; omega)), hy7⟩
  rintro e' w4 ⟨e1, gs, F, L, e3, hbs, hne, hS, hx4⟩
  rw [upd_self e1, upd_self e3]
  have hb4 := hb3.ext hx4
  have hx04 := hx03.trans' hx4
  clear hb3
  rcases hS with ⟨hm, rfl⟩ | ⟨fine, q', hi, hm, ⟨f, caps, hF⟩, h1, h2, htk⟩
  · refine go_ReqN (k := ?_)
    exact bodyE_ret1 rfl (.bool false) rfl ⟨by rw [hm], hx04⟩
  subst hF
  refine go_ReqN (k := ?_)
  refine OW_loadX agg_Req rfl (qcells q (.slice A q.token.length c)) rfl hb4.atL ?_
  refine go_ReqN (k := ?_)
  refine OW_callG rfl (h1 w4 A c (Ext.rfl' _)) rfl ?_
  rintro en w5 ⟨rfl, hx5⟩
  refine ⟨_, rfl, ?_⟩
  have hx05 := hx04.trans' hx5
  have hb5 := hb4.ext hx5
  have hbs5 := hbs.ext hx5
  clear hb4 hbs h1
  cases fine with
  | false =>
    refine go_ReqN (k := ?_)
    exact bodyE_ret1 rfl (.bool false) rfl ⟨by rw [ht, hm]; rfl, hx05⟩
  | true =>
    refine go_ReqN (k := ?_)
    refine OW_callG rfl (h2 w5 g _ hb5) rfl ?_
    rintro en w6 ⟨rfl, hb6, hk6⟩
    refine ⟨_, rfl, ?_⟩
    have hx06 := hk6.ext hx05 (fun j hj => by have hj : j = g := hj; omega)
    clear hb5 hbs5
    refine go_ReqN (k := ?_)
    refine OW_loadX agg_Req rfl (qcells q' (.slice A q.token.length c)) rfl hb6.atL ?_
    refine go_ReqN (k := ?_)
    have hB := bare_any w6 A c q' hi
    rw [htk] at hB
    refine OW_callV Try.func66 (by kernel_rfl) rfl hB rfl ?_
    intro w7 hx7
    refine go_ReqN (k := ?_)
    exact bodyE_ret1 rfl (.bool _) rfl ⟨by rw [ht, hm]; rfl, hx06.trans' hx7⟩
end Go.Proofs.Ytdpomchhbbopbaa
