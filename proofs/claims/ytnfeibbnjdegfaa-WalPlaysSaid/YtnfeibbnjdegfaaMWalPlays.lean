/- WalPlays: any acts come to what the chapter says: their answers, the records, how many of them last, the disk's bytes. No condition. -/
import Derived.Test.YtnfeibbnjdegfaaGw23
namespace Go.Proofs.Ytnfeibbnjdegfaa.lawWalPlays
open Go.ChangeShapes Go.WideShapes Go.ChangeAt Go.RowKit
set_option linter.unusedVariables false
set_option maxRecDepth 4000
theorem go_LWalPlays {A B : Prop} (h : Held B → A := by
  intro hEnd
  repeat (first | refine OW_fieldB fldo_E0 rfl ?_ | refine OW_fieldB fldo_E1 rfl ?_ | refine OW_fieldB fldo_E2 rfl ?_ | refine OW_fieldB fldo_E3 rfl ?_ | refine OW_nilCheck rfl ?_ | refine OW_lenS und_WAs rfl ?_ | refine OW_lenS und_bytess rfl ?_ | refine OW_idxN und_WAs el_WA rfl rfl _ rfl (by omega) ?_ | refine OW_neqF rfl rfl rfl ?_ | refine OW_moveV (.int _ _) rfl ?_ | refine OW_moveV (.slice _ _ _) rfl ?_ | refine OW_moveV (.bool _) rfl ?_ | refine OW_moveV (.pointer _) rfl ?_ | refine OW_moveV (.string _) rfl ?_ | refine OW_moveV (.agg _) rfl ?_ | refine OW_moveV (.tuple _) rfl ?_ | refine OW_nil ?_ | refine thenE_normal ?_ | refine CW_seq ?_ | refine CW_region (by kernel_rfl) ?_ | refine OW_assignV (.int _ _) rfl ?_ | refine OW_assignV (.slice _ _ _) rfl ?_ | refine OW_assignV (.bool _) rfl ?_ | refine OW_assignV (.pointer _) rfl ?_ | refine OW_assignV (.string _) rfl ?_ | refine OW_assignV (.agg _) rfl ?_ | refine OW_assignV (.tuple _) rfl ?_ | refine OW_addI rfl rfl (by omega) ?_ | refine OW_subI rfl rfl (by omega) ?_ | refine OW_mulI rfl rfl (by omega) ?_ | refine OW_lss rfl rfl ?_ | refine OW_extract rfl rfl ?_ | refine OW_gtr rfl rfl ?_ | refine OW_leq rfl rfl ?_ | refine OW_geq rfl rfl ?_ | refine OW_eql rfl rfl ?_ | refine OW_neq rfl rfl ?_ | refine OW_not rfl ?_ | refine OW_pickT rfl _ rfl ?_ | refine OW_pickF rfl (.bool _) rfl ?_ | refine OW_pickB rfl rfl rfl ?_ | refine OW_move ?_ | refine OW_assign ?_ | refine OW_pass rfl ?_ | refine OW_take rfl ?_ | refine OW_lenS (by first | with_reducible exact und_bytes | with_reducible exact und_bytess) rfl ?_ | refine OW_convInt (by first | with_reducible exact und_u8 | with_reducible exact und_u64 | with_reducible exact und_int | with_reducible exact und_u32) (by first | with_reducible exact und_u8 | with_reducible exact und_u64 | with_reducible exact und_int | with_reducible exact und_u32) rfl ?_ | refine OW_add rfl rfl ?_ | refine OW_sub rfl rfl ?_ | refine OW_mul rfl rfl ?_ | refine OW_min2 rfl rfl ?_ | refine OW_max2 rfl rfl ?_ | refine OW_neg rfl ?_ | refine CW_block ?_ | refine CW_condT rfl ?_ | refine CW_condF rfl ?_ | refine CW_exit ?_ | refine CW_ret ?_ | refine CW_skip ?_ | refine LW_seq ?_ | refine LW_regC ?_ | refine LW_condC ?_ | refine LW_regF ?_ | refine LW_condF ?_ | refine FW_seq ?_ | refine FW_region (by kernel_rfl) ?_ | refine FW_block ?_ | refine FW_condT rfl ?_ | refine FW_condF rfl ?_ | refine FW_exit ?_ | refine FW_ret ?_ | refine FW_skip ?_ | refine LW_ret ?_ | refine LW_skip ?_ | refine thenE_exit ?_ | refine thenE_ret ?_ | refine inBlockE_normal ?_ | refine inBlockE_same ?_ | refine inBlockE_ret ?_ | refine inBlockE_ne (by rfl) ?_ | refine OW_eqlB (by with_reducible exact und_bool) rfl rfl ?_ | refine OW_neqB (by with_reducible exact und_bool) rfl rfl ?_ | refine OW_idxS (by with_reducible exact und_bytes) one_u8 rfl rfl _ rfl (by omega) ?_ | refine OW_idxS (by with_reducible exact und_bytess) one_bytes rfl rfl _ rfl (by omega) ?_ | refine OW_load1 (by first | with_reducible exact one_u8 | with_reducible exact one_bytes) rfl _ (by assumption) ?_ | refine OW_idxS und_bytess one_bytes rfl rfl _ rfl (by omega) ?_ | refine OW_load1 one_bytes rfl _ (by assumption) ?_)
  exact hEnd.out) (k : B) : A := h ⟨k⟩
theorem oy_LWalPlays {A B : Prop} (h : Held B → A := by
  intro hEnd
  repeat (first
    | refine OY_done ?_
    | (apply OY_p _ rfl
       · intro wd
         (first | refine OW_fieldB fldo_E0 rfl ?_ | refine OW_fieldB fldo_E1 rfl ?_ | refine OW_fieldB fldo_E2 rfl ?_ | refine OW_fieldB fldo_E3 rfl ?_ | refine OW_nilCheck rfl ?_ | refine OW_lenS und_WAs rfl ?_ | refine OW_lenS und_bytess rfl ?_ | refine OW_idxN und_WAs el_WA rfl rfl _ rfl (by omega) ?_ | refine OW_neqF rfl rfl rfl ?_ | refine OW_moveV (.int _ _) rfl ?_ | refine OW_moveV (.slice _ _ _) rfl ?_ | refine OW_moveV (.bool _) rfl ?_ | refine OW_moveV (.pointer _) rfl ?_ | refine OW_moveV (.string _) rfl ?_ | refine OW_moveV (.agg _) rfl ?_ | refine OW_moveV (.tuple _) rfl ?_ | refine OW_nil ?_ | refine thenE_normal ?_ | refine CW_seq ?_ | refine CW_region (by kernel_rfl) ?_ | refine OW_assignV (.int _ _) rfl ?_ | refine OW_assignV (.slice _ _ _) rfl ?_ | refine OW_assignV (.bool _) rfl ?_ | refine OW_assignV (.pointer _) rfl ?_ | refine OW_assignV (.string _) rfl ?_ | refine OW_assignV (.agg _) rfl ?_ | refine OW_assignV (.tuple _) rfl ?_ | refine OW_addI rfl rfl (by omega) ?_ | refine OW_subI rfl rfl (by omega) ?_ | refine OW_mulI rfl rfl (by omega) ?_ | refine OW_lss rfl rfl ?_ | refine OW_extract rfl rfl ?_ | refine OW_gtr rfl rfl ?_ | refine OW_leq rfl rfl ?_ | refine OW_geq rfl rfl ?_ | refine OW_eql rfl rfl ?_ | refine OW_neq rfl rfl ?_ | refine OW_not rfl ?_ | refine OW_pickT rfl _ rfl ?_ | refine OW_pickF rfl (.bool _) rfl ?_ | refine OW_pickB rfl rfl rfl ?_ | refine OW_move ?_ | refine OW_assign ?_ | refine OW_pass rfl ?_ | refine OW_take rfl ?_ | refine OW_lenS (by first | with_reducible exact und_bytes | with_reducible exact und_bytess) rfl ?_ | refine OW_convInt (by first | with_reducible exact und_u8 | with_reducible exact und_u64 | with_reducible exact und_int | with_reducible exact und_u32) (by first | with_reducible exact und_u8 | with_reducible exact und_u64 | with_reducible exact und_int | with_reducible exact und_u32) rfl ?_ | refine OW_add rfl rfl ?_ | refine OW_sub rfl rfl ?_ | refine OW_mul rfl rfl ?_ | refine OW_min2 rfl rfl ?_ | refine OW_max2 rfl rfl ?_ | refine OW_neg rfl ?_ | refine CW_block ?_ | refine CW_condT rfl ?_ | refine CW_condF rfl ?_ | refine CW_exit ?_ | refine CW_ret ?_ | refine CW_skip ?_ | refine LW_seq ?_ | refine LW_regC ?_ | refine LW_condC ?_ | refine LW_regF ?_ | refine LW_condF ?_ | refine FW_seq ?_ | refine FW_region (by kernel_rfl) ?_ | refine FW_block ?_ | refine FW_condT rfl ?_ | refine FW_condF rfl ?_ | refine FW_exit ?_ | refine FW_ret ?_ | refine FW_skip ?_ | refine LW_ret ?_ | refine LW_skip ?_ | refine thenE_exit ?_ | refine thenE_ret ?_ | refine inBlockE_normal ?_ | refine inBlockE_same ?_ | refine inBlockE_ret ?_ | refine inBlockE_ne (by rfl) ?_ | refine OW_eqlB (by with_reducible exact und_bool) rfl rfl ?_ | refine OW_neqB (by with_reducible exact und_bool) rfl rfl ?_ | refine OW_idxS (by with_reducible exact und_bytes) one_u8 rfl rfl _ rfl (by omega) ?_ | refine OW_idxS (by with_reducible exact und_bytess) one_bytes rfl rfl _ rfl (by omega) ?_ | refine OW_load1 (by first | with_reducible exact one_u8 | with_reducible exact one_bytes) rfl _ (by assumption) ?_ | refine OW_idxS und_bytess one_bytes rfl rfl _ rfl (by omega) ?_ | refine OW_load1 one_bytes rfl _ (by assumption) ?_)
         refine OW_nil ?_
         exact stay_mk _ _ _ _)
    | (apply OY_q _ rfl
       · intro wd hwd
         (first | refine OW_fieldB fldo_E0 rfl ?_ | refine OW_fieldB fldo_E1 rfl ?_ | refine OW_fieldB fldo_E2 rfl ?_ | refine OW_fieldB fldo_E3 rfl ?_ | refine OW_nilCheck rfl ?_ | refine OW_lenS und_WAs rfl ?_ | refine OW_lenS und_bytess rfl ?_ | refine OW_idxN und_WAs el_WA rfl rfl _ rfl (by omega) ?_ | refine OW_neqF rfl rfl rfl ?_ | refine OW_moveV (.int _ _) rfl ?_ | refine OW_moveV (.slice _ _ _) rfl ?_ | refine OW_moveV (.bool _) rfl ?_ | refine OW_moveV (.pointer _) rfl ?_ | refine OW_moveV (.string _) rfl ?_ | refine OW_moveV (.agg _) rfl ?_ | refine OW_moveV (.tuple _) rfl ?_ | refine OW_nil ?_ | refine thenE_normal ?_ | refine CW_seq ?_ | refine CW_region (by kernel_rfl) ?_ | refine OW_assignV (.int _ _) rfl ?_ | refine OW_assignV (.slice _ _ _) rfl ?_ | refine OW_assignV (.bool _) rfl ?_ | refine OW_assignV (.pointer _) rfl ?_ | refine OW_assignV (.string _) rfl ?_ | refine OW_assignV (.agg _) rfl ?_ | refine OW_assignV (.tuple _) rfl ?_ | refine OW_addI rfl rfl (by omega) ?_ | refine OW_subI rfl rfl (by omega) ?_ | refine OW_mulI rfl rfl (by omega) ?_ | refine OW_lss rfl rfl ?_ | refine OW_extract rfl rfl ?_ | refine OW_gtr rfl rfl ?_ | refine OW_leq rfl rfl ?_ | refine OW_geq rfl rfl ?_ | refine OW_eql rfl rfl ?_ | refine OW_neq rfl rfl ?_ | refine OW_not rfl ?_ | refine OW_pickT rfl _ rfl ?_ | refine OW_pickF rfl (.bool _) rfl ?_ | refine OW_pickB rfl rfl rfl ?_ | refine OW_move ?_ | refine OW_assign ?_ | refine OW_pass rfl ?_ | refine OW_take rfl ?_ | refine OW_lenS (by first | with_reducible exact und_bytes | with_reducible exact und_bytess) rfl ?_ | refine OW_convInt (by first | with_reducible exact und_u8 | with_reducible exact und_u64 | with_reducible exact und_int | with_reducible exact und_u32) (by first | with_reducible exact und_u8 | with_reducible exact und_u64 | with_reducible exact und_int | with_reducible exact und_u32) rfl ?_ | refine OW_add rfl rfl ?_ | refine OW_sub rfl rfl ?_ | refine OW_mul rfl rfl ?_ | refine OW_min2 rfl rfl ?_ | refine OW_max2 rfl rfl ?_ | refine OW_neg rfl ?_ | refine CW_block ?_ | refine CW_condT rfl ?_ | refine CW_condF rfl ?_ | refine CW_exit ?_ | refine CW_ret ?_ | refine CW_skip ?_ | refine LW_seq ?_ | refine LW_regC ?_ | refine LW_condC ?_ | refine LW_regF ?_ | refine LW_condF ?_ | refine FW_seq ?_ | refine FW_region (by kernel_rfl) ?_ | refine FW_block ?_ | refine FW_condT rfl ?_ | refine FW_condF rfl ?_ | refine FW_exit ?_ | refine FW_ret ?_ | refine FW_skip ?_ | refine LW_ret ?_ | refine LW_skip ?_ | refine thenE_exit ?_ | refine thenE_ret ?_ | refine inBlockE_normal ?_ | refine inBlockE_same ?_ | refine inBlockE_ret ?_ | refine inBlockE_ne (by rfl) ?_ | refine OW_eqlB (by with_reducible exact und_bool) rfl rfl ?_ | refine OW_neqB (by with_reducible exact und_bool) rfl rfl ?_ | refine OW_idxS (by with_reducible exact und_bytes) one_u8 rfl rfl _ rfl (by omega) ?_ | refine OW_idxS (by with_reducible exact und_bytess) one_bytes rfl rfl _ rfl (by omega) ?_ | refine OW_load1 (by first | with_reducible exact one_u8 | with_reducible exact one_bytes) rfl _ (by assumption) ?_ | refine OW_idxS und_bytess one_bytes rfl rfl _ rfl (by omega) ?_ | refine OW_load1 one_bytes rfl _ (by assumption) ?_ | (refine OW_isLoad ?_; refine OW_loadBk (by first | with_reducible exact one_u8 | with_reducible exact one_bytes | with_reducible exact one_bool | with_reducible exact one_int | with_reducible exact one_errno | with_reducible exact one_u32 | with_reducible exact one_u64 | with_reducible exact one_string | with_reducible exact s_int | with_reducible exact s_bool) rfl (by apply_assumption; assumption) _ (by first | assumption | rfl) ?_) | refine OW_load1 (by first | with_reducible exact one_u8 | with_reducible exact one_bytes | with_reducible exact one_bool | with_reducible exact one_int | with_reducible exact one_errno | with_reducible exact one_u32 | with_reducible exact one_u64 | with_reducible exact one_string | with_reducible exact s_int | with_reducible exact s_bool) rfl _ (by apply_assumption; assumption) ?_)
         refine OW_nil ?_
         exact stay_mk _ _ _ _)
    | refine OY_ppass rfl rfl ?_
    | refine OY_qpass rfl rfl ?_
    | (apply OY_ptake _ rfl rfl
       · intro wd
         (first | refine OW_fieldB fldo_E0 rfl ?_ | refine OW_fieldB fldo_E1 rfl ?_ | refine OW_fieldB fldo_E2 rfl ?_ | refine OW_fieldB fldo_E3 rfl ?_ | refine OW_nilCheck rfl ?_ | refine OW_lenS und_WAs rfl ?_ | refine OW_lenS und_bytess rfl ?_ | refine OW_idxN und_WAs el_WA rfl rfl _ rfl (by omega) ?_ | refine OW_neqF rfl rfl rfl ?_ | refine OW_moveV (.int _ _) rfl ?_ | refine OW_moveV (.slice _ _ _) rfl ?_ | refine OW_moveV (.bool _) rfl ?_ | refine OW_moveV (.pointer _) rfl ?_ | refine OW_moveV (.string _) rfl ?_ | refine OW_moveV (.agg _) rfl ?_ | refine OW_moveV (.tuple _) rfl ?_ | refine OW_nil ?_ | refine thenE_normal ?_ | refine CW_seq ?_ | refine CW_region (by kernel_rfl) ?_ | refine OW_assignV (.int _ _) rfl ?_ | refine OW_assignV (.slice _ _ _) rfl ?_ | refine OW_assignV (.bool _) rfl ?_ | refine OW_assignV (.pointer _) rfl ?_ | refine OW_assignV (.string _) rfl ?_ | refine OW_assignV (.agg _) rfl ?_ | refine OW_assignV (.tuple _) rfl ?_ | refine OW_addI rfl rfl (by omega) ?_ | refine OW_subI rfl rfl (by omega) ?_ | refine OW_mulI rfl rfl (by omega) ?_ | refine OW_lss rfl rfl ?_ | refine OW_extract rfl rfl ?_ | refine OW_gtr rfl rfl ?_ | refine OW_leq rfl rfl ?_ | refine OW_geq rfl rfl ?_ | refine OW_eql rfl rfl ?_ | refine OW_neq rfl rfl ?_ | refine OW_not rfl ?_ | refine OW_pickT rfl _ rfl ?_ | refine OW_pickF rfl (.bool _) rfl ?_ | refine OW_pickB rfl rfl rfl ?_ | refine OW_move ?_ | refine OW_assign ?_ | refine OW_pass rfl ?_ | refine OW_take rfl ?_ | refine OW_lenS (by first | with_reducible exact und_bytes | with_reducible exact und_bytess) rfl ?_ | refine OW_convInt (by first | with_reducible exact und_u8 | with_reducible exact und_u64 | with_reducible exact und_int | with_reducible exact und_u32) (by first | with_reducible exact und_u8 | with_reducible exact und_u64 | with_reducible exact und_int | with_reducible exact und_u32) rfl ?_ | refine OW_add rfl rfl ?_ | refine OW_sub rfl rfl ?_ | refine OW_mul rfl rfl ?_ | refine OW_min2 rfl rfl ?_ | refine OW_max2 rfl rfl ?_ | refine OW_neg rfl ?_ | refine CW_block ?_ | refine CW_condT rfl ?_ | refine CW_condF rfl ?_ | refine CW_exit ?_ | refine CW_ret ?_ | refine CW_skip ?_ | refine LW_seq ?_ | refine LW_regC ?_ | refine LW_condC ?_ | refine LW_regF ?_ | refine LW_condF ?_ | refine FW_seq ?_ | refine FW_region (by kernel_rfl) ?_ | refine FW_block ?_ | refine FW_condT rfl ?_ | refine FW_condF rfl ?_ | refine FW_exit ?_ | refine FW_ret ?_ | refine FW_skip ?_ | refine LW_ret ?_ | refine LW_skip ?_ | refine thenE_exit ?_ | refine thenE_ret ?_ | refine inBlockE_normal ?_ | refine inBlockE_same ?_ | refine inBlockE_ret ?_ | refine inBlockE_ne (by rfl) ?_ | refine OW_eqlB (by with_reducible exact und_bool) rfl rfl ?_ | refine OW_neqB (by with_reducible exact und_bool) rfl rfl ?_ | refine OW_idxS (by with_reducible exact und_bytes) one_u8 rfl rfl _ rfl (by omega) ?_ | refine OW_idxS (by with_reducible exact und_bytess) one_bytes rfl rfl _ rfl (by omega) ?_ | refine OW_load1 (by first | with_reducible exact one_u8 | with_reducible exact one_bytes) rfl _ (by assumption) ?_ | refine OW_idxS und_bytess one_bytes rfl rfl _ rfl (by omega) ?_ | refine OW_load1 one_bytes rfl _ (by assumption) ?_)
         refine OW_nil ?_
         exact stay_mk _ _ _ _)
    | (apply OY_qtake _ rfl rfl
       · intro wd hwd
         (first | refine OW_fieldB fldo_E0 rfl ?_ | refine OW_fieldB fldo_E1 rfl ?_ | refine OW_fieldB fldo_E2 rfl ?_ | refine OW_fieldB fldo_E3 rfl ?_ | refine OW_nilCheck rfl ?_ | refine OW_lenS und_WAs rfl ?_ | refine OW_lenS und_bytess rfl ?_ | refine OW_idxN und_WAs el_WA rfl rfl _ rfl (by omega) ?_ | refine OW_neqF rfl rfl rfl ?_ | refine OW_moveV (.int _ _) rfl ?_ | refine OW_moveV (.slice _ _ _) rfl ?_ | refine OW_moveV (.bool _) rfl ?_ | refine OW_moveV (.pointer _) rfl ?_ | refine OW_moveV (.string _) rfl ?_ | refine OW_moveV (.agg _) rfl ?_ | refine OW_moveV (.tuple _) rfl ?_ | refine OW_nil ?_ | refine thenE_normal ?_ | refine CW_seq ?_ | refine CW_region (by kernel_rfl) ?_ | refine OW_assignV (.int _ _) rfl ?_ | refine OW_assignV (.slice _ _ _) rfl ?_ | refine OW_assignV (.bool _) rfl ?_ | refine OW_assignV (.pointer _) rfl ?_ | refine OW_assignV (.string _) rfl ?_ | refine OW_assignV (.agg _) rfl ?_ | refine OW_assignV (.tuple _) rfl ?_ | refine OW_addI rfl rfl (by omega) ?_ | refine OW_subI rfl rfl (by omega) ?_ | refine OW_mulI rfl rfl (by omega) ?_ | refine OW_lss rfl rfl ?_ | refine OW_extract rfl rfl ?_ | refine OW_gtr rfl rfl ?_ | refine OW_leq rfl rfl ?_ | refine OW_geq rfl rfl ?_ | refine OW_eql rfl rfl ?_ | refine OW_neq rfl rfl ?_ | refine OW_not rfl ?_ | refine OW_pickT rfl _ rfl ?_ | refine OW_pickF rfl (.bool _) rfl ?_ | refine OW_pickB rfl rfl rfl ?_ | refine OW_move ?_ | refine OW_assign ?_ | refine OW_pass rfl ?_ | refine OW_take rfl ?_ | refine OW_lenS (by first | with_reducible exact und_bytes | with_reducible exact und_bytess) rfl ?_ | refine OW_convInt (by first | with_reducible exact und_u8 | with_reducible exact und_u64 | with_reducible exact und_int | with_reducible exact und_u32) (by first | with_reducible exact und_u8 | with_reducible exact und_u64 | with_reducible exact und_int | with_reducible exact und_u32) rfl ?_ | refine OW_add rfl rfl ?_ | refine OW_sub rfl rfl ?_ | refine OW_mul rfl rfl ?_ | refine OW_min2 rfl rfl ?_ | refine OW_max2 rfl rfl ?_ | refine OW_neg rfl ?_ | refine CW_block ?_ | refine CW_condT rfl ?_ | refine CW_condF rfl ?_ | refine CW_exit ?_ | refine CW_ret ?_ | refine CW_skip ?_ | refine LW_seq ?_ | refine LW_regC ?_ | refine LW_condC ?_ | refine LW_regF ?_ | refine LW_condF ?_ | refine FW_seq ?_ | refine FW_region (by kernel_rfl) ?_ | refine FW_block ?_ | refine FW_condT rfl ?_ | refine FW_condF rfl ?_ | refine FW_exit ?_ | refine FW_ret ?_ | refine FW_skip ?_ | refine LW_ret ?_ | refine LW_skip ?_ | refine thenE_exit ?_ | refine thenE_ret ?_ | refine inBlockE_normal ?_ | refine inBlockE_same ?_ | refine inBlockE_ret ?_ | refine inBlockE_ne (by rfl) ?_ | refine OW_eqlB (by with_reducible exact und_bool) rfl rfl ?_ | refine OW_neqB (by with_reducible exact und_bool) rfl rfl ?_ | refine OW_idxS (by with_reducible exact und_bytes) one_u8 rfl rfl _ rfl (by omega) ?_ | refine OW_idxS (by with_reducible exact und_bytess) one_bytes rfl rfl _ rfl (by omega) ?_ | refine OW_load1 (by first | with_reducible exact one_u8 | with_reducible exact one_bytes) rfl _ (by assumption) ?_ | refine OW_idxS und_bytess one_bytes rfl rfl _ rfl (by omega) ?_ | refine OW_load1 one_bytes rfl _ (by assumption) ?_ | (refine OW_isLoad ?_; refine OW_loadBk (by first | with_reducible exact one_u8 | with_reducible exact one_bytes | with_reducible exact one_bool | with_reducible exact one_int | with_reducible exact one_errno | with_reducible exact one_u32 | with_reducible exact one_u64 | with_reducible exact one_string | with_reducible exact s_int | with_reducible exact s_bool) rfl (by apply_assumption; assumption) _ (by first | assumption | rfl) ?_) | refine OW_load1 (by first | with_reducible exact one_u8 | with_reducible exact one_bytes | with_reducible exact one_bool | with_reducible exact one_int | with_reducible exact one_errno | with_reducible exact one_u32 | with_reducible exact one_u64 | with_reducible exact one_string | with_reducible exact s_int | with_reducible exact s_bool) rfl _ (by apply_assumption; assumption) ?_)
         refine OW_nil ?_
         exact stay_mk _ _ _ _)
    | refine OY_a (actY_of rfl ?_)
    | refine OY_d (actY_of rfl ?_)
    | refine OY_a (actY_pass rfl rfl ?_)
    | refine OY_d (actY_pass rfl rfl ?_)
    | refine OY_a (actY_take rfl rfl ?_)
    | refine OY_d (actY_take rfl rfl ?_))
  exact hEnd.out) (k : B) : A := h ⟨k⟩
set_option maxHeartbeats 8000000 in
theorem walk (w : World) (v0 : Value) (l : List AD) (h0 : kWActs.R w [v0] l) : Calls Try.prog 11 #[v0] w (RetV w (.bool true)) := by
  obtain ⟨A, c, hv0, hc, hcm, hA⟩ := h0
  have hA : WCs w A l := hA
  injection hv0 with hv0
  subst hv0
  refine calls_of_CW Try.func11 rfl (by simp [Try.ntmps11]) ?_
  rw [Try.ntmps11]
  refine go_LWalPlays (k := ?_)
  refine OW_callV Try.func39 (by kernel_rfl) rfl (great7_any w A c l hA (by omega)) rfl ?_
  intro w2 hx2
  refine go_LWalPlays (k := ?_)
  refine CW_cond _ rfl (fun h => ?_) (fun h => ?_)
  · refine go_LWalPlays (k := ?_)
    exact bodyE_ret1 rfl (.bool true) rfl ⟨rfl, hx2⟩
  have hgs : asum 40 l ≤ 2000 := by have := of_decide_eq_false h; omega
  clear h
  have hll := asum_len 40 l
  refine go_LWalPlays (k := ?_)
  refine OW_callC Try.func15 (by kernel_rfl) rfl (newDisk_any w2) rfl ?_
  rintro en w3 ⟨g, rfl, hg, hx3, hR3⟩
  refine ⟨_, rfl, ?_⟩
  have hlo3 : ∀ k, more (fun _ => False) w2 w3 k → w.heap.size ≤ k := fun k hk => by rcases hk with h | h; exact h.elim; have := hx2.size; omega
  generalize more (fun _ => False) w2 w3 = S3 at *
  refine go_LWalPlays (k := ?_)
  refine OW_build _ _ bld_E rfl ?_
  refine go_LWalPlays (k := ?_)
  refine OW_box _ rfl ?_
  intro w4 g2 hb4 hg2 hl2 hx4
  have hb4 : Blk w4 g2 50 #[.slice none 0 0, .int .i64 0, .slice none 0 0, .bool false] := hb4
  have hx04 := (hx2.trans' hx3).trans' hx4
  refine go_LWalPlays (k := ?_)
  refine OW_callC Try.func16 (by kernel_rfl) rfl (walNew_any w4 (some ⟨g, 0, none⟩)) rfl ?_
  rintro en w4b ⟨v, rfl, hvb, hv1, hv2, hx4b⟩
  refine ⟨_, rfl, ?_⟩
  have hT4 : TwoV w w4b v g g2 dNew dNew := by
    have hbd3 := hR3.bd
    have z4 := hx4.size
    refine ⟨S3, (· = g2), (hR3.ext hx4).ext hx4b, ER.ext ⟨rfl, ⟨none, 0, none, 0, hb4, ⟨Bs.nil _ _, Nat.le_refl _, fun ad h => (by cases h)⟩, ⟨World.ownsRow_nil _ _ _ _, fun ad h => (by cases h)⟩⟩, fun k hk => by rw [hk]; exact hl2⟩ hx4b, hvb, fun hh => ?_, fun hh => ?_, fun k hk hh => ?_, hlo3, fun k hk => ?_, hx04.trans' hx4b⟩
    · have := hbd3 _ hh; omega
    · have hh : v = g2 := hh; omega
    · have := hbd3 k hk; omega
    · have := (hx2.trans' hx3).size; omega
  clear hR3 hlo3 hb4
  refine go_LWalPlays (k := ?_)
  refine CW_loop (fun e' w' => ∃ (i : Nat) (d : DS), i ≤ l.length + 1 ∧ e' 0 = .slice A l.length c ∧ e' 3 = .pointer (some ⟨g, 0, none⟩) ∧ e' 4 = .pointer (some ⟨g2, 0, none⟩) ∧ e' 5 = .pointer (some ⟨v, 0, none⟩) ∧ e' 6 = .int .i64 i ∧ d.all.length ≤ 2000 ∧ d.ws.length ≤ i ∧ (i ≤ l.length → d.all.length ≤ asum 40 (l.take i)) ∧ TwoV w w' v g g2 d d) (fun e' _ => l.length + 1 - (intOf (e' 6)).toNat) ?_ ?_
  · exact ⟨0, dNew, by omega, rfl, rfl, rfl, rfl, rfl, Nat.zero_le _, Nat.zero_le _, fun _ => Nat.zero_le _, hT4⟩
  clear hT4
  rintro e5 w5 ⟨i, d, hi, q0, q3, q4, q5, q6, hal, hwl, hal2, hT⟩
  rw [upd_self q0, upd_self q3, upd_self q4, upd_self q5, upd_self q6]
  refine go_LWalPlays (k := ?_)
  refine CW_cond _ rfl (fun hh => ?_) (fun hh => ?_)
  · have hle : i ≤ l.length := by have := of_decide_eq_true hh; omega
    clear hh
    have hal3 := hal2 hle
    have hsl0 := asum_take_le 40 l i
    refine go_LWalPlays (k := ?_)
    refine OW_callC Try.func18 (by kernel_rfl) rfl (hT.useD fun S h hv => vRecords_any w5 v g S d h hv (by omega) (by omega)) rfl ?_
    rintro en w6 ⟨L, cL, vs, rfl, hiV, hRV, hx6⟩
    refine ⟨_, rfl, ?_⟩
    have hT6 := hT.ext hx6
    obtain ⟨AE, cE, EE, cEE, hbE, hbsE, hcE⟩ : ∃ A c E cE, Blk w6 g2 50 #[.slice A d.all.length c, .int .i64 d.s.length, .slice E d.ws.length cE, .bool (!d.up)] ∧ Bs w6 A d.all ∧ d.all.length ≤ c := by
      obtain ⟨S, S2, h1, h2, _⟩ := hT6
      obtain ⟨A, c, E, cE, q1, ⟨q2, q3, _⟩, _⟩ := h2.at_
      exact ⟨A, c, E, cE, q1, q2, q3⟩
    have hpl : ∀ us : List BV, IsAll d.all (us.map pay) → us.length ≤ 100000 ∧ ∀ v ∈ us, v.2.2.length ≤ 1000000 := fun us hi => by
      have h1 := frames12 (us.map pay)
      rw [List.length_map] at h1
      have h2 := hi.1
      refine ⟨by omega, fun v hv => ?_⟩
      have := hi.2.2.2 (pay v) (List.mem_map.2 ⟨v, hv, rfl⟩)
      have : (pay v).length = v.2.2.length := rfl
      omega
    have hbv := hpl vs hiV
    have hslen : d.s.length ≤ d.all.length := by unfold DS.all; simp
    refine go_LWalPlays (k := ?_)
    obtain ⟨C, hC⟩ : ∃ C : World → Prop, C = fun v => Ext w6 v := ⟨_, rfl⟩
    have y_hbE := blkE hC hbE
    refine CW_tree2 [18, 28, 37] (.p 0 (.p 1 (.d 2 (.d 3 (.p 4 (.p 5 (.p 6 (.p 8 (.d 7 (.d 9 (.p 10 (.p 11 (.p 12 (.p 13 (.p 15 (.p 16 (.p 17 (.q 18 (.a 14 (.d 19 (.p 20 (.p 21 (.p 22 (.p 23 (.p 25 (.p 26 (.p 27 (.q 28 (.a 24 (.p 29 (.p 30 (.p 31 (.p 32 (.p 34 (.p 35 (.p 36 (.q 37 (.a 33 (.p 38 (.p 39 .done)))))))))))))))))))))))))))))))))))))))) (C) (by kernel_rfl) (by kernel_rfl) (by kernel_rfl) ?_ ?_
    · exact inE hC
    intro w7 hx7 h_C
    refine oy_LWalPlays (k := ?_)
    refine OW_callC Try.func41 (by kernel_rfl) rfl ((hT6.ext hx7).useE fun S h => refRecords7_any w7 g2 S d h (by omega)) rfl ?_
    rintro en w8 ⟨X, cX, us, rfl, hiU, hRU, hx8⟩
    refine ⟨_, rfl, ?_⟩
    have hx68 := hx7.trans' hx8
    first | refine OW_nil (goY_mkE hC (hx68) ?_) | refine OW_nil (goY_dropE hC (hx68) ?_)
    refine oy_LWalPlays (k := ?_)
    have hbu := hpl us hiU
    have hvu := isAll_uniq hiV hiU
    refine OW_callV Try.func40 (by kernel_rfl) rfl (refLSame_any w8 L X cL cX vs us (hRV.ext hx68).arg hRU.arg hbv.1 hbv.2 hbu.2) rfl ?_
    intro w9 hx9
    rw [beq_iff_eq.2 hvu]
    have hx69 := hx68.trans' hx9
    first | refine OW_nil (goY_mkE hC (hx69) ?_) | refine OW_nil (goY_dropE hC (hx69) ?_)
    refine oy_LWalPlays (k := ?_)
    refine OW_callC Try.func21 (by kernel_rfl) rfl ((hT6.ext hx69).useD fun S h hv => vLasting_any w9 v g S d h hv (by omega) (by omega)) rfl ?_
    rintro en w10 ⟨ps, hps, rfl, hx10⟩
    refine ⟨_, rfl, ?_⟩
    have hx610 := hx69.trans' hx10
    first | refine OW_nil (goY_mkE hC (hx610) ?_) | refine OW_nil (goY_dropE hC (hx610) ?_)
    refine oy_LWalPlays (k := ?_)
    refine OW_callC Try.func42 (by kernel_rfl) rfl ((hT6.ext hx610).useE fun S h => refLasting7_any w10 g2 S d h (by omega)) rfl ?_
    rintro en w11 ⟨ps2, hps2, rfl, hx11⟩
    refine ⟨_, rfl, ?_⟩
    rw [← isAll_uniq hps hps2]
    have hx611 := hx610.trans' hx11
    first | refine OW_nil (goY_mkE hC (hx611) ?_) | refine OW_nil (goY_dropE hC (hx611) ?_)
    refine oy_LWalPlays (k := ?_)
    refine OW_callC Try.func28 (by kernel_rfl) rfl ((hT6.ext hx611).useD fun S h hv => dBytes_any w11 g S d h (by omega) (by omega)) rfl ?_
    rintro en w12 ⟨A6, c6, rfl, hc6, hf6, hx12⟩
    refine ⟨_, rfl, ?_⟩
    have hx612 := hx611.trans' hx12
    first | refine OW_nil (goY_mkE hC (hx612) ?_) | refine OW_nil (goY_dropE hC (hx612) ?_)
    refine oy_LWalPlays (k := ?_)
    refine OW_callV Try.func32 (by kernel_rfl) rfl (refSame_any w12 A6 AE d.all d.all c6 cE hf6.bs (hbsE.ext hx612) (by omega)) rfl ?_
    intro w13 hx13
    rw [beq_self_eq_true]
    have hx613 := hx612.trans' hx13
    first | refine OW_nil (goY_mkE hC (hx613) ?_) | refine OW_nil (goY_dropE hC (hx613) ?_)
    refine oy_LWalPlays (k := ?_)
    refine OW_callV Try.func29 (by kernel_rfl) rfl ((hT6.ext hx613).useD fun S h hv => dSynced_any w13 g S d h) rfl ?_
    intro w14 hx14
    have hx614 := hx613.trans' hx14
    first | refine OW_nil (goY_mkE hC (hx614) ?_) | refine OW_nil (goY_dropE hC (hx614) ?_)
    refine oy_LWalPlays (k := ?_)
    refine OW_callV Try.func31 (by kernel_rfl) rfl ((hT6.ext hx614).useD fun S h hv => dUp_any w14 g S d h) rfl ?_
    intro w15 hx15
    have hx615 := hx614.trans' hx15
    first | refine OW_nil (goY_mkE hC (hx615) ?_) | refine OW_nil (goY_dropE hC (hx615) ?_)
    refine oy_LWalPlays (k := ?_)
    obtain ⟨S, S2, h1, h2, h3, h4, h5, h6, h7, h8, h9⟩ := hT
    have bd1 := h1.bd
    have bd2 := h2.bd
    have hvlt := h3.lt
    have hx515 := hx6.trans' hx615
    have hR15 := hRV.ext hx615
    replace h1 := h1.ext hx515
    replace h2 := h2.ext hx515
    replace h3 := h3.ext hx515
    have hvl := hbv.1
    have hcap9 := own_cap hRV.row
    have hw5 := h9.size
    clear hT6 hbE hbsE hf6 hRV hRU hiV hiU hvu hps hps2 hpl hbu hbv
    rw [show (d.up == !d.up) = false by simp]
    refine go_LWalPlays (k := ?_)
    refine CW_meetB (fun e' w' => e' 0 = .slice A l.length c ∧ e' 3 = .pointer (some ⟨g, 0, none⟩) ∧ e' 4 = .pointer (some ⟨g2, 0, none⟩) ∧ e' 5 = .pointer (some ⟨v, 0, none⟩) ∧ e' 6 = .int .i64 i ∧ Keeps w15 w' (fun k => w5.heap.size ≤ k)) ?_ ?_
    · refine CW_loop (fun e' w' => ∃ (k : Nat) (zs : List BV), k ≤ zs.length ∧ e' 0 = .slice A l.length c ∧ e' 3 = .pointer (some ⟨g, 0, none⟩) ∧ e' 4 = .pointer (some ⟨g2, 0, none⟩) ∧ e' 5 = .pointer (some ⟨v, 0, none⟩) ∧ e' 6 = .int .i64 i ∧ e' 7 = .slice L zs.length cL ∧ e' 8 = .int .i64 k ∧ zs.length = vs.length ∧ RowsB w' w5.heap.size L cL zs ∧ Keeps w15 w' (fun k => w5.heap.size ≤ k)) (fun e' _ => vs.length - (intOf (e' 8)).toNat) ?_ ?_
      · exact ⟨0, vs, by omega, rfl, rfl, rfl, rfl, rfl, rfl, rfl, rfl, hR15, Keeps.rfl' _ _⟩
      rintro e6 w16 ⟨k, zs, hk, q0, q3, q4, q5, q6, q7, q8, hzl, hR, hK⟩
      rw [upd_self q0, upd_self q3, upd_self q4, upd_self q5, upd_self q6, upd_self q7, upd_self q8]
      refine go_LWalPlays (k := ?_)
      refine CW_cond _ rfl (fun hh => ?_) (fun hh => ?_)
      · have hltk : k < zs.length := by simpa using hh
        clear hh
        refine go_LWalPlays (k := ?_)
        refine CW_meetB (fun e' w' => ∃ zs2 : List BV, e' 0 = .slice A l.length c ∧ e' 3 = .pointer (some ⟨g, 0, none⟩) ∧ e' 4 = .pointer (some ⟨g2, 0, none⟩) ∧ e' 5 = .pointer (some ⟨v, 0, none⟩) ∧ e' 6 = .int .i64 i ∧ e' 7 = .slice L zs2.length cL ∧ e' 8 = .int .i64 k ∧ zs2.length = zs.length ∧ RowsB w' w5.heap.size L cL zs2 ∧ Keeps w15 w' (fun k => w5.heap.size ≤ k)) ?_ ?_
        · refine CW_loop (fun e' w' => ∃ (j : Nat) (zs2 : List BV) (hz : zs2.length = zs.length), j ≤ (zs2[k]'(by omega)).2.2.length ∧ (zs2[k]'(by omega)).2.2.length = (zs[k]).2.2.length ∧ e' 0 = .slice A l.length c ∧ e' 3 = .pointer (some ⟨g, 0, none⟩) ∧ e' 4 = .pointer (some ⟨g2, 0, none⟩) ∧ e' 5 = .pointer (some ⟨v, 0, none⟩) ∧ e' 6 = .int .i64 i ∧ e' 7 = .slice L zs2.length cL ∧ e' 8 = .int .i64 k ∧ e' 9 = .int .i64 j ∧ RowsB w' w5.heap.size L cL zs2 ∧ Keeps w15 w' (fun k => w5.heap.size ≤ k)) (fun e' _ => (zs[k]).2.2.length - (intOf (e' 9)).toNat) ?_ ?_
          · exact ⟨0, zs, rfl, by omega, rfl, rfl, rfl, rfl, rfl, rfl, rfl, rfl, rfl, hR, hK⟩
          rintro e7 w17 ⟨j, zs2, hz2, hj, hjl, q0, q3, q4, q5, q6, q7, q8, q9, hR2, hK2⟩
          rw [upd_self q0, upd_self q3, upd_self q4, upd_self q5, upd_self q6, upd_self q7, upd_self q8, upd_self q9]
          have hi2 : k < zs2.length := by omega
          obtain ⟨ad, hL, hcL⟩ := hR2.arg.cell hi2
          subst hL
          have hput := fun (hk : j < (zs2[k]).2.2.length) g (hg : (zs2[k]).1 = some ⟨g, 0, none⟩) x => hR2.put hi2 hk hg x
          have hown := hR2.each zs2[k] (List.getElem_mem hi2)
          obtain ⟨u, hu⟩ : ∃ u, zs2[k] = u := ⟨_, rfl⟩
          rw [hu] at hcL hj hjl hput hown
          obtain ⟨uA, uc, ul⟩ := u
          replace hcL : w17.cell? (ad.add k) = some (.slice uA ul.length uc) := hcL
          simp only at hj hjl hput
          replace hown : w17.ownsRow w5.heap.size 5 1 (.slice uA ul.length uc) ul.length (ul.map bv) := hown
          have hcp := own_cap hown
          unfold maxLen at hcp
          refine go_LWalPlays (k := ?_)
          refine CW_cond _ rfl (fun hh => ?_) (fun hh => ?_)
          · have hlk : j < ul.length := by simpa using hh
            clear hh
            obtain ⟨gu, cur, huA, hgl, hbl⟩ := own_blk hown (by omega)
            subst huA
            have hcell := inc_cell hown rfl hlk
            obtain ⟨hR3, hg3⟩ := hput hlk gu rfl (ul[j] + 1)
            refine go_LWalPlays (k := ?_)
            rw [inc_u8]
            refine go_LWalPlays (k := ?_)
            rw [add0] at hcell ⊢
            refine OW_store1 one_u8 rfl (bv (ul[j] + 1)) (bv ul[j]) rfl rfl hcell (hown.frozenAt j) ?_
            refine go_LWalPlays (k := ?_)
            refine ⟨⟨j + 1, _, by rw [List.length_set]; exact hz2, ?_, ?_, rfl, rfl, rfl, rfl, rfl, by rw [List.length_set]; rfl, rfl, rfl, hR3, hK2.trans' (Keeps.of_only hg3 hgl)⟩, ?_⟩
            · rw [List.getElem_set_self]; simp only [List.length_set]; omega
            · rw [List.getElem_set_self]; simp only [List.length_set]; exact hjl
            · show (zs[k]).2.2.length - ((j : Int) + 1).toNat < (zs[k]).2.2.length - (j : Int).toNat
              omega
          · refine go_LWalPlays (k := ?_)
            exact ⟨rfl, zs2, rfl, rfl, rfl, rfl, rfl, rfl, rfl, hz2, hR2, hK2⟩
        rintro e7 w17 ⟨zs2, q0, q3, q4, q5, q6, q7, q8, hz2, hR2, hK2⟩
        rw [upd_self q0, upd_self q3, upd_self q4, upd_self q5, upd_self q6, upd_self q7, upd_self q8]
        refine go_LWalPlays (k := ?_)
        refine ⟨⟨k + 1, zs2, by omega, rfl, rfl, rfl, rfl, rfl, rfl, rfl, by omega, hR2, hK2⟩, ?_⟩
        show vs.length - ((k : Int) + 1).toNat < vs.length - (k : Int).toNat
        omega
      · refine go_LWalPlays (k := ?_)
        exact ⟨rfl, rfl, rfl, rfl, rfl, rfl, hK⟩
    rintro e16 w16 ⟨q0, q3, q4, q5, q6, hK⟩
    rw [upd_self q0, upd_self q3, upd_self q4, upd_self q5, upd_self q6]
    have hx16 : Ext w w16 := hK.ext (h9.trans' hx515) (fun k hk => by omega)
    have hT16 : TwoV w w16 v g g2 d d := ⟨S, S2, h1.keeps hK (fun k hk hh => by have := bd1 k hk; omega), h2.keeps hK (fun k hk hh => by have := bd2 k hk; omega), h3.keeps hK (by omega), h4, h5, h6, h7, h8, hx16⟩
    clear h1 h2 h3 hK hR15
    refine go_LWalPlays (k := ?_)
    refine OW_split 93 _ rfl (fun hh => ?_) (fun hh => ?_)
    · have hlt : i < l.length := by simpa using hh
      clear hh
      obtain ⟨ad, A', c', rfl, hat, hok⟩ := hA.get hlt
      have hs := asum_take_succ (k := 40) hlt
      have hsl := asum_take_le 40 l (i + 1)
      generalize l[i] = f at *
      refine go_LWalPlays (k := ?_)
      refine OW_loadX agg_WA rfl (acells f (.slice A' f.B.length c')) rfl (hat.ext hx16) ?_
      refine go_LWalPlays (k := ?_)
      refine OW_callC Try.func43 (by kernel_rfl) rfl (one7_any w w16 v g g2 d hT16 f A' c' hok (by omega) (by omega) (by omega)) rfl ?_
      rintro en w17 ⟨rfl, d', hT17, hd1, hd2⟩
      refine ⟨_, rfl, ?_⟩
      refine go_LWalPlays (k := ?_)
      refine ⟨⟨i + 1, d', by omega, rfl, rfl, rfl, rfl, rfl, by omega, by omega, fun _ => by omega, hT17⟩, ?_⟩
      show l.length + 1 - ((i : Int) + 1).toNat < l.length + 1 - (i : Int).toNat
      omega
    · refine go_LWalPlays (k := ?_)
      have hnl : ¬ i < l.length := by simpa using hh
      refine ⟨⟨i + 1, d, by omega, rfl, rfl, rfl, rfl, rfl, by omega, by omega, fun h => absurd h (by omega), hT16⟩, ?_⟩
      show l.length + 1 - ((i : Int) + 1).toNat < l.length + 1 - (i : Int).toNat
      omega
  · refine go_LWalPlays (k := ?_)
    exact bodyE_ret1 rfl (.bool true) rfl ⟨rfl, hT.to⟩
set_option maxRecDepth 100000 in
theorem lifted (os : Os) (started : os.Started) (H : Type) (enc : TypeId × Value → H) :
    ReturnsInHanded {} Try.checked os 11 .any (Rows.walPlaysSpec.pre6 enc Try.prog Try.f11 Rows.walPlaysRow.domain false) (Rows.walPlaysSpec.post enc Try.prog Try.f11 false true false false) := by
  refine returnsInHanded_of_change_sized (C := Try.checked) ownP started (by kernel_rfl) Try.func11
    (ChangeSpec.witness6 (enc := enc) (C := Try.checked) false ⟨#[], #[.slice none 0 0], []⟩ 8 (by kernel_rfl) (by kernel_rfl) (by kernel_rfl) (by kernel_rfl)) ?_
  intro W base args ds gs before hval0 hW hcnd hwt0 _
  have hval : ∀ (j : Nat) t v, Try.f11.params[j]? = some t → args[j]? = some v → Value.okWide Try.prog W .any base t v := hval0
  have hW' := hW
  obtain ⟨p, q, hA0, hV, rfl, hfz, hnd⟩ := hW
  have hA : DataW.TrodAll enc Try.prog W 0 (fun _ => true) true Try.f11.params.toList args.toList ds p := hA0
  have hwt : (DataW.weightsEach Try.prog (Try.f11.params.toList ++ []) (ds ++ gs)).all (· ≤ reachBytes) = true := hwt0
  rw [Try.params11] at hA hval hwt
  obtain ⟨v0, vs0, d0, ds0, p0, q0, hargs, rfl, rfl, h0, r0⟩ := trodAll_cons hA
  obtain ⟨rfl, rfl, rfl⟩ := trodAll_nil r0
  obtain rfl : args = #[v0] := by cases args; simp_all
  obtain ⟨rfl, rfl⟩ := trodVars_none hV
  have k0 := h0
  have lt0 : ∀ x ∈ p0, x.block < W.heap.size := by obtain ⟨m, hm⟩ := k0; exact DataW.trod_lt m _ _ _ hm
  have wk0 : WOk Try.prog 64 d0 := wok_each hwt 0 rfl rfl
  obtain ⟨a0, b0⟩ := kd_slice kWActs und_WAs (hval 0 64 v0 rfl rfl) h0 wk0
  clear hA0 hval0 hwt0
  refine (walk W v0 a0 b0).mono fun e W' ⟨he, bel⟩ => ?_
  subst he
  exact ⟨_, rfl, _, _, _, [], _, [], hW', trodAll_mk1 (shut_bool Try.underlying4 _), (trodAll_cons_mk (Below.trod laidP (by kernel_rfl) (of_decide_eq_true (by kernel_rfl)) k0 bel lt0) trodAll_mk0), rfl, bel.frame _, fun h => by cases h⟩
theorem over : Rows.walPlaysRow.holds Try.pinned (OpenSpec.ofChange Rows.walPlaysSpec) :=
  OpenClaim.holds_of_wide 11 Try.f11 rfl rfl rfl rfl rfl rfl rfl ⟨rfl, rfl, rfl, rfl, rfl⟩ rfl rfl rfl rfl rfl (by kernel_rfl) Try.func11 (by kernel_rfl)
    (of_decide_eq_true (by kernel_rfl)) (by unfold Func.isWrapper; first | (rw [if_pos (by decide +kernel)]; kernel_rfl) | (rw [if_neg (by decide +kernel)]; exact ⟨rfl, rfl⟩))
    (fun os started H enc _ => lifted os started H enc)
theorem proved : Rows.WalPlaysSaid := over
#print axioms proved
end Go.Proofs.Ytnfeibbnjdegfaa.lawWalPlays
