/- Several texts in one, as they stand in wip/src. -/
import Derived.Test.YtnfeibbnjdegfaaGw3
import Derived.Test.YtnfeibbnjdegfaaGw6
/- Walk: one block. -/
namespace Go.Proofs.Ytnfeibbnjdegfaa
open Go Go.RowKit
set_option linter.unusedVariables false
set_option maxRecDepth 4000

theorem go_Sha2 {A B : Prop} (h : Held B → A := by
  intro hEnd
  repeat (first | refine OW_addW rfl rfl ?_ | refine OW_andW rfl rfl ?_ | refine OW_orW rfl rfl ?_ | refine OW_xorW rfl rfl ?_ | refine OW_notW rfl ?_ | refine OW_idxAB (by first | with_reducible exact und_nums | with_reducible exact und_w64) one_u32 rfl rfl _ rfl (by omega) ?_ | refine OW_moveV (.int _ _) rfl ?_ | refine OW_moveV (.slice _ _ _) rfl ?_ | refine OW_moveV (.bool _) rfl ?_ | refine OW_moveV (.pointer _) rfl ?_ | refine OW_moveV (.string _) rfl ?_ | refine OW_moveV (.agg _) rfl ?_ | refine OW_moveV (.tuple _) rfl ?_ | refine OW_nil ?_ | refine thenE_normal ?_ | refine CW_seq ?_ | refine CW_region (by kernel_rfl) ?_ | refine OW_assignV (.int _ _) rfl ?_ | refine OW_assignV (.slice _ _ _) rfl ?_ | refine OW_assignV (.bool _) rfl ?_ | refine OW_assignV (.pointer _) rfl ?_ | refine OW_assignV (.string _) rfl ?_ | refine OW_assignV (.agg _) rfl ?_ | refine OW_assignV (.tuple _) rfl ?_ | refine OW_addI rfl rfl (by omega) ?_ | refine OW_subI rfl rfl (by omega) ?_ | refine OW_mulI rfl rfl (by omega) ?_ | refine OW_lss rfl rfl ?_ | refine OW_extract rfl rfl ?_ | refine OW_gtr rfl rfl ?_ | refine OW_leq rfl rfl ?_ | refine OW_geq rfl rfl ?_ | refine OW_eql rfl rfl ?_ | refine OW_neq rfl rfl ?_ | refine OW_not rfl ?_ | refine OW_pickT rfl _ rfl ?_ | refine OW_pickF rfl (.bool _) rfl ?_ | refine OW_pickB rfl rfl rfl ?_ | refine OW_move ?_ | refine OW_assign ?_ | refine OW_pass rfl ?_ | refine OW_take rfl ?_ | refine OW_lenS (by first | with_reducible exact und_bytes | with_reducible exact und_bytess) rfl ?_ | refine OW_convInt (by first | with_reducible exact und_u8 | with_reducible exact und_u64 | with_reducible exact und_int | with_reducible exact und_u32) (by first | with_reducible exact und_u8 | with_reducible exact und_u64 | with_reducible exact und_int | with_reducible exact und_u32) rfl ?_ | refine OW_add rfl rfl ?_ | refine OW_sub rfl rfl ?_ | refine OW_mul rfl rfl ?_ | refine OW_min2 rfl rfl ?_ | refine OW_max2 rfl rfl ?_ | refine OW_neg rfl ?_ | refine CW_block ?_ | refine CW_condT rfl ?_ | refine CW_condF rfl ?_ | refine CW_exit ?_ | refine CW_ret ?_ | refine CW_skip ?_ | refine LW_seq ?_ | refine LW_regC ?_ | refine LW_condC ?_ | refine LW_regF ?_ | refine LW_condF ?_ | refine FW_seq ?_ | refine FW_region (by kernel_rfl) ?_ | refine FW_block ?_ | refine FW_condT rfl ?_ | refine FW_condF rfl ?_ | refine FW_exit ?_ | refine FW_ret ?_ | refine FW_skip ?_ | refine LW_ret ?_ | refine LW_skip ?_ | refine thenE_exit ?_ | refine thenE_ret ?_ | refine inBlockE_normal ?_ | refine inBlockE_same ?_ | refine inBlockE_ret ?_ | refine inBlockE_ne (by rfl) ?_ | refine OW_eqlB (by with_reducible exact und_bool) rfl rfl ?_ | refine OW_neqB (by with_reducible exact und_bool) rfl rfl ?_ | refine OW_idxS (by with_reducible exact und_bytes) one_u8 rfl rfl _ rfl (by omega) ?_ | refine OW_idxS (by with_reducible exact und_bytess) one_bytes rfl rfl _ rfl (by omega) ?_ | refine OW_load1 (by first | with_reducible exact one_u8 | with_reducible exact one_bytes) rfl _ (by assumption) ?_ | refine OW_idxAI (by first | with_reducible exact und_nums | with_reducible exact und_w64) one_u32 rfl rfl (by omega) (by omega) ?_ | (refine OW_isLoad ?_; refine OW_loadBk one_u32 rfl (by assumption) _ (by first | assumption | rfl) ?_) | refine OW_sliceA und_nums one_u32 rfl ⟨_, rfl⟩ rfl 1 8 rfl rfl (by decide) (by decide) (by decide) ?_ | refine OW_sliceA und_nums one_u32 rfl rfl ⟨_, rfl⟩ 0 7 rfl rfl (by decide) (by decide) (by decide) ?_)
  exact hEnd.out) (k : B) : A := h ⟨k⟩
theorem oy_Sha2 {A B : Prop} (h : Held B → A := by
  intro hEnd
  repeat (first
    | refine OY_done ?_
    | (apply OY_p _ rfl
       · intro wd
         (first | refine OW_addW rfl rfl ?_ | refine OW_andW rfl rfl ?_ | refine OW_orW rfl rfl ?_ | refine OW_xorW rfl rfl ?_ | refine OW_notW rfl ?_ | refine OW_idxAB (by first | refine with_reducible exact und_nums | refine with_reducible exact und_w64) one_u32 rfl rfl _ rfl (by omega) ?_ | refine OW_moveV (.int _ _) rfl ?_ | refine OW_moveV (.slice _ _ _) rfl ?_ | refine OW_moveV (.bool _) rfl ?_ | refine OW_moveV (.pointer _) rfl ?_ | refine OW_moveV (.string _) rfl ?_ | refine OW_moveV (.agg _) rfl ?_ | refine OW_moveV (.tuple _) rfl ?_ | refine OW_nil ?_ | refine thenE_normal ?_ | refine CW_seq ?_ | refine CW_region (by kernel_rfl) ?_ | refine OW_assignV (.int _ _) rfl ?_ | refine OW_assignV (.slice _ _ _) rfl ?_ | refine OW_assignV (.bool _) rfl ?_ | refine OW_assignV (.pointer _) rfl ?_ | refine OW_assignV (.string _) rfl ?_ | refine OW_assignV (.agg _) rfl ?_ | refine OW_assignV (.tuple _) rfl ?_ | refine OW_addI rfl rfl (by omega) ?_ | refine OW_subI rfl rfl (by omega) ?_ | refine OW_mulI rfl rfl (by omega) ?_ | refine OW_lss rfl rfl ?_ | refine OW_extract rfl rfl ?_ | refine OW_gtr rfl rfl ?_ | refine OW_leq rfl rfl ?_ | refine OW_geq rfl rfl ?_ | refine OW_eql rfl rfl ?_ | refine OW_neq rfl rfl ?_ | refine OW_not rfl ?_ | refine OW_pickT rfl _ rfl ?_ | refine OW_pickF rfl (.bool _) rfl ?_ | refine OW_pickB rfl rfl rfl ?_ | refine OW_move ?_ | refine OW_assign ?_ | refine OW_pass rfl ?_ | refine OW_take rfl ?_ | refine OW_lenS (by first | with_reducible exact und_bytes | with_reducible exact und_bytess) rfl ?_ | refine OW_convInt (by first | with_reducible exact und_u8 | with_reducible exact und_u64 | with_reducible exact und_int | with_reducible exact und_u32) (by first | with_reducible exact und_u8 | with_reducible exact und_u64 | with_reducible exact und_int | with_reducible exact und_u32) rfl ?_ | refine OW_add rfl rfl ?_ | refine OW_sub rfl rfl ?_ | refine OW_mul rfl rfl ?_ | refine OW_min2 rfl rfl ?_ | refine OW_max2 rfl rfl ?_ | refine OW_neg rfl ?_ | refine CW_block ?_ | refine CW_condT rfl ?_ | refine CW_condF rfl ?_ | refine CW_exit ?_ | refine CW_ret ?_ | refine CW_skip ?_ | refine LW_seq ?_ | refine LW_regC ?_ | refine LW_condC ?_ | refine LW_regF ?_ | refine LW_condF ?_ | refine FW_seq ?_ | refine FW_region (by kernel_rfl) ?_ | refine FW_block ?_ | refine FW_condT rfl ?_ | refine FW_condF rfl ?_ | refine FW_exit ?_ | refine FW_ret ?_ | refine FW_skip ?_ | refine LW_ret ?_ | refine LW_skip ?_ | refine thenE_exit ?_ | refine thenE_ret ?_ | refine inBlockE_normal ?_ | refine inBlockE_same ?_ | refine inBlockE_ret ?_ | refine inBlockE_ne (by rfl) ?_ | refine OW_eqlB (by with_reducible exact und_bool) rfl rfl ?_ | refine OW_neqB (by with_reducible exact und_bool) rfl rfl ?_ | refine OW_idxS (by with_reducible exact und_bytes) one_u8 rfl rfl _ rfl (by omega) ?_ | refine OW_idxS (by with_reducible exact und_bytess) one_bytes rfl rfl _ rfl (by omega) ?_ | refine OW_load1 (by first | with_reducible exact one_u8 | with_reducible exact one_bytes) rfl _ (by assumption) ?_ | refine OW_idxAI (by first | with_reducible exact und_nums | with_reducible exact und_w64) one_u32 rfl rfl (by omega) (by omega) ?_ | (refine OW_isLoad ?_; refine OW_loadBk one_u32 rfl (by assumption) _ (by first | assumption | rfl) ?_) | refine OW_sliceA und_nums one_u32 rfl ⟨_, rfl⟩ rfl 1 8 rfl rfl (by decide) (by decide) (by decide) ?_ | refine OW_sliceA und_nums one_u32 rfl rfl ⟨_, rfl⟩ 0 7 rfl rfl (by decide) (by decide) (by decide) ?_)
         refine OW_nil ?_
         exact stay_mk _ _ _ _)
    | (apply OY_q _ rfl
       · intro wd hwd
         (first | refine OW_addW rfl rfl ?_ | refine OW_andW rfl rfl ?_ | refine OW_orW rfl rfl ?_ | refine OW_xorW rfl rfl ?_ | refine OW_notW rfl ?_ | refine OW_idxAB (by first | refine with_reducible exact und_nums | refine with_reducible exact und_w64) one_u32 rfl rfl _ rfl (by omega) ?_ | refine OW_moveV (.int _ _) rfl ?_ | refine OW_moveV (.slice _ _ _) rfl ?_ | refine OW_moveV (.bool _) rfl ?_ | refine OW_moveV (.pointer _) rfl ?_ | refine OW_moveV (.string _) rfl ?_ | refine OW_moveV (.agg _) rfl ?_ | refine OW_moveV (.tuple _) rfl ?_ | refine OW_nil ?_ | refine thenE_normal ?_ | refine CW_seq ?_ | refine CW_region (by kernel_rfl) ?_ | refine OW_assignV (.int _ _) rfl ?_ | refine OW_assignV (.slice _ _ _) rfl ?_ | refine OW_assignV (.bool _) rfl ?_ | refine OW_assignV (.pointer _) rfl ?_ | refine OW_assignV (.string _) rfl ?_ | refine OW_assignV (.agg _) rfl ?_ | refine OW_assignV (.tuple _) rfl ?_ | refine OW_addI rfl rfl (by omega) ?_ | refine OW_subI rfl rfl (by omega) ?_ | refine OW_mulI rfl rfl (by omega) ?_ | refine OW_lss rfl rfl ?_ | refine OW_extract rfl rfl ?_ | refine OW_gtr rfl rfl ?_ | refine OW_leq rfl rfl ?_ | refine OW_geq rfl rfl ?_ | refine OW_eql rfl rfl ?_ | refine OW_neq rfl rfl ?_ | refine OW_not rfl ?_ | refine OW_pickT rfl _ rfl ?_ | refine OW_pickF rfl (.bool _) rfl ?_ | refine OW_pickB rfl rfl rfl ?_ | refine OW_move ?_ | refine OW_assign ?_ | refine OW_pass rfl ?_ | refine OW_take rfl ?_ | refine OW_lenS (by first | with_reducible exact und_bytes | with_reducible exact und_bytess) rfl ?_ | refine OW_convInt (by first | with_reducible exact und_u8 | with_reducible exact und_u64 | with_reducible exact und_int | with_reducible exact und_u32) (by first | with_reducible exact und_u8 | with_reducible exact und_u64 | with_reducible exact und_int | with_reducible exact und_u32) rfl ?_ | refine OW_add rfl rfl ?_ | refine OW_sub rfl rfl ?_ | refine OW_mul rfl rfl ?_ | refine OW_min2 rfl rfl ?_ | refine OW_max2 rfl rfl ?_ | refine OW_neg rfl ?_ | refine CW_block ?_ | refine CW_condT rfl ?_ | refine CW_condF rfl ?_ | refine CW_exit ?_ | refine CW_ret ?_ | refine CW_skip ?_ | refine LW_seq ?_ | refine LW_regC ?_ | refine LW_condC ?_ | refine LW_regF ?_ | refine LW_condF ?_ | refine FW_seq ?_ | refine FW_region (by kernel_rfl) ?_ | refine FW_block ?_ | refine FW_condT rfl ?_ | refine FW_condF rfl ?_ | refine FW_exit ?_ | refine FW_ret ?_ | refine FW_skip ?_ | refine LW_ret ?_ | refine LW_skip ?_ | refine thenE_exit ?_ | refine thenE_ret ?_ | refine inBlockE_normal ?_ | refine inBlockE_same ?_ | refine inBlockE_ret ?_ | refine inBlockE_ne (by rfl) ?_ | refine OW_eqlB (by with_reducible exact und_bool) rfl rfl ?_ | refine OW_neqB (by with_reducible exact und_bool) rfl rfl ?_ | refine OW_idxS (by with_reducible exact und_bytes) one_u8 rfl rfl _ rfl (by omega) ?_ | refine OW_idxS (by with_reducible exact und_bytess) one_bytes rfl rfl _ rfl (by omega) ?_ | refine OW_load1 (by first | with_reducible exact one_u8 | with_reducible exact one_bytes) rfl _ (by assumption) ?_ | refine OW_idxAI (by first | with_reducible exact und_nums | with_reducible exact und_w64) one_u32 rfl rfl (by omega) (by omega) ?_ | (refine OW_isLoad ?_; refine OW_loadBk one_u32 rfl (by assumption) _ (by first | assumption | rfl) ?_) | refine OW_sliceA und_nums one_u32 rfl ⟨_, rfl⟩ rfl 1 8 rfl rfl (by decide) (by decide) (by decide) ?_ | refine OW_sliceA und_nums one_u32 rfl rfl ⟨_, rfl⟩ 0 7 rfl rfl (by decide) (by decide) (by decide) ?_ | (refine OW_isLoad ?_; refine OW_loadBk (by first | with_reducible exact one_u8 | with_reducible exact one_bytes | with_reducible exact one_bool | with_reducible exact one_int | with_reducible exact one_errno | with_reducible exact one_u32 | with_reducible exact one_u64 | with_reducible exact one_string) rfl (by apply_assumption; assumption) _ (by first | assumption | rfl) ?_) | refine OW_load1 (by first | with_reducible exact one_u8 | with_reducible exact one_bytes | with_reducible exact one_bool | with_reducible exact one_int | with_reducible exact one_errno | with_reducible exact one_u32 | with_reducible exact one_u64 | with_reducible exact one_string) rfl _ (by apply_assumption; assumption) ?_)
         refine OW_nil ?_
         exact stay_mk _ _ _ _)
    | refine OY_ppass rfl rfl ?_
    | refine OY_qpass rfl rfl ?_
    | (apply OY_ptake _ rfl rfl
       · intro wd
         (first | refine OW_addW rfl rfl ?_ | refine OW_andW rfl rfl ?_ | refine OW_orW rfl rfl ?_ | refine OW_xorW rfl rfl ?_ | refine OW_notW rfl ?_ | refine OW_idxAB (by first | refine with_reducible exact und_nums | refine with_reducible exact und_w64) one_u32 rfl rfl _ rfl (by omega) ?_ | refine OW_moveV (.int _ _) rfl ?_ | refine OW_moveV (.slice _ _ _) rfl ?_ | refine OW_moveV (.bool _) rfl ?_ | refine OW_moveV (.pointer _) rfl ?_ | refine OW_moveV (.string _) rfl ?_ | refine OW_moveV (.agg _) rfl ?_ | refine OW_moveV (.tuple _) rfl ?_ | refine OW_nil ?_ | refine thenE_normal ?_ | refine CW_seq ?_ | refine CW_region (by kernel_rfl) ?_ | refine OW_assignV (.int _ _) rfl ?_ | refine OW_assignV (.slice _ _ _) rfl ?_ | refine OW_assignV (.bool _) rfl ?_ | refine OW_assignV (.pointer _) rfl ?_ | refine OW_assignV (.string _) rfl ?_ | refine OW_assignV (.agg _) rfl ?_ | refine OW_assignV (.tuple _) rfl ?_ | refine OW_addI rfl rfl (by omega) ?_ | refine OW_subI rfl rfl (by omega) ?_ | refine OW_mulI rfl rfl (by omega) ?_ | refine OW_lss rfl rfl ?_ | refine OW_extract rfl rfl ?_ | refine OW_gtr rfl rfl ?_ | refine OW_leq rfl rfl ?_ | refine OW_geq rfl rfl ?_ | refine OW_eql rfl rfl ?_ | refine OW_neq rfl rfl ?_ | refine OW_not rfl ?_ | refine OW_pickT rfl _ rfl ?_ | refine OW_pickF rfl (.bool _) rfl ?_ | refine OW_pickB rfl rfl rfl ?_ | refine OW_move ?_ | refine OW_assign ?_ | refine OW_pass rfl ?_ | refine OW_take rfl ?_ | refine OW_lenS (by first | with_reducible exact und_bytes | with_reducible exact und_bytess) rfl ?_ | refine OW_convInt (by first | with_reducible exact und_u8 | with_reducible exact und_u64 | with_reducible exact und_int | with_reducible exact und_u32) (by first | with_reducible exact und_u8 | with_reducible exact und_u64 | with_reducible exact und_int | with_reducible exact und_u32) rfl ?_ | refine OW_add rfl rfl ?_ | refine OW_sub rfl rfl ?_ | refine OW_mul rfl rfl ?_ | refine OW_min2 rfl rfl ?_ | refine OW_max2 rfl rfl ?_ | refine OW_neg rfl ?_ | refine CW_block ?_ | refine CW_condT rfl ?_ | refine CW_condF rfl ?_ | refine CW_exit ?_ | refine CW_ret ?_ | refine CW_skip ?_ | refine LW_seq ?_ | refine LW_regC ?_ | refine LW_condC ?_ | refine LW_regF ?_ | refine LW_condF ?_ | refine FW_seq ?_ | refine FW_region (by kernel_rfl) ?_ | refine FW_block ?_ | refine FW_condT rfl ?_ | refine FW_condF rfl ?_ | refine FW_exit ?_ | refine FW_ret ?_ | refine FW_skip ?_ | refine LW_ret ?_ | refine LW_skip ?_ | refine thenE_exit ?_ | refine thenE_ret ?_ | refine inBlockE_normal ?_ | refine inBlockE_same ?_ | refine inBlockE_ret ?_ | refine inBlockE_ne (by rfl) ?_ | refine OW_eqlB (by with_reducible exact und_bool) rfl rfl ?_ | refine OW_neqB (by with_reducible exact und_bool) rfl rfl ?_ | refine OW_idxS (by with_reducible exact und_bytes) one_u8 rfl rfl _ rfl (by omega) ?_ | refine OW_idxS (by with_reducible exact und_bytess) one_bytes rfl rfl _ rfl (by omega) ?_ | refine OW_load1 (by first | with_reducible exact one_u8 | with_reducible exact one_bytes) rfl _ (by assumption) ?_ | refine OW_idxAI (by first | with_reducible exact und_nums | with_reducible exact und_w64) one_u32 rfl rfl (by omega) (by omega) ?_ | (refine OW_isLoad ?_; refine OW_loadBk one_u32 rfl (by assumption) _ (by first | assumption | rfl) ?_) | refine OW_sliceA und_nums one_u32 rfl ⟨_, rfl⟩ rfl 1 8 rfl rfl (by decide) (by decide) (by decide) ?_ | refine OW_sliceA und_nums one_u32 rfl rfl ⟨_, rfl⟩ 0 7 rfl rfl (by decide) (by decide) (by decide) ?_)
         refine OW_nil ?_
         exact stay_mk _ _ _ _)
    | (apply OY_qtake _ rfl rfl
       · intro wd hwd
         (first | refine OW_addW rfl rfl ?_ | refine OW_andW rfl rfl ?_ | refine OW_orW rfl rfl ?_ | refine OW_xorW rfl rfl ?_ | refine OW_notW rfl ?_ | refine OW_idxAB (by first | refine with_reducible exact und_nums | refine with_reducible exact und_w64) one_u32 rfl rfl _ rfl (by omega) ?_ | refine OW_moveV (.int _ _) rfl ?_ | refine OW_moveV (.slice _ _ _) rfl ?_ | refine OW_moveV (.bool _) rfl ?_ | refine OW_moveV (.pointer _) rfl ?_ | refine OW_moveV (.string _) rfl ?_ | refine OW_moveV (.agg _) rfl ?_ | refine OW_moveV (.tuple _) rfl ?_ | refine OW_nil ?_ | refine thenE_normal ?_ | refine CW_seq ?_ | refine CW_region (by kernel_rfl) ?_ | refine OW_assignV (.int _ _) rfl ?_ | refine OW_assignV (.slice _ _ _) rfl ?_ | refine OW_assignV (.bool _) rfl ?_ | refine OW_assignV (.pointer _) rfl ?_ | refine OW_assignV (.string _) rfl ?_ | refine OW_assignV (.agg _) rfl ?_ | refine OW_assignV (.tuple _) rfl ?_ | refine OW_addI rfl rfl (by omega) ?_ | refine OW_subI rfl rfl (by omega) ?_ | refine OW_mulI rfl rfl (by omega) ?_ | refine OW_lss rfl rfl ?_ | refine OW_extract rfl rfl ?_ | refine OW_gtr rfl rfl ?_ | refine OW_leq rfl rfl ?_ | refine OW_geq rfl rfl ?_ | refine OW_eql rfl rfl ?_ | refine OW_neq rfl rfl ?_ | refine OW_not rfl ?_ | refine OW_pickT rfl _ rfl ?_ | refine OW_pickF rfl (.bool _) rfl ?_ | refine OW_pickB rfl rfl rfl ?_ | refine OW_move ?_ | refine OW_assign ?_ | refine OW_pass rfl ?_ | refine OW_take rfl ?_ | refine OW_lenS (by first | with_reducible exact und_bytes | with_reducible exact und_bytess) rfl ?_ | refine OW_convInt (by first | with_reducible exact und_u8 | with_reducible exact und_u64 | with_reducible exact und_int | with_reducible exact und_u32) (by first | with_reducible exact und_u8 | with_reducible exact und_u64 | with_reducible exact und_int | with_reducible exact und_u32) rfl ?_ | refine OW_add rfl rfl ?_ | refine OW_sub rfl rfl ?_ | refine OW_mul rfl rfl ?_ | refine OW_min2 rfl rfl ?_ | refine OW_max2 rfl rfl ?_ | refine OW_neg rfl ?_ | refine CW_block ?_ | refine CW_condT rfl ?_ | refine CW_condF rfl ?_ | refine CW_exit ?_ | refine CW_ret ?_ | refine CW_skip ?_ | refine LW_seq ?_ | refine LW_regC ?_ | refine LW_condC ?_ | refine LW_regF ?_ | refine LW_condF ?_ | refine FW_seq ?_ | refine FW_region (by kernel_rfl) ?_ | refine FW_block ?_ | refine FW_condT rfl ?_ | refine FW_condF rfl ?_ | refine FW_exit ?_ | refine FW_ret ?_ | refine FW_skip ?_ | refine LW_ret ?_ | refine LW_skip ?_ | refine thenE_exit ?_ | refine thenE_ret ?_ | refine inBlockE_normal ?_ | refine inBlockE_same ?_ | refine inBlockE_ret ?_ | refine inBlockE_ne (by rfl) ?_ | refine OW_eqlB (by with_reducible exact und_bool) rfl rfl ?_ | refine OW_neqB (by with_reducible exact und_bool) rfl rfl ?_ | refine OW_idxS (by with_reducible exact und_bytes) one_u8 rfl rfl _ rfl (by omega) ?_ | refine OW_idxS (by with_reducible exact und_bytess) one_bytes rfl rfl _ rfl (by omega) ?_ | refine OW_load1 (by first | with_reducible exact one_u8 | with_reducible exact one_bytes) rfl _ (by assumption) ?_ | refine OW_idxAI (by first | with_reducible exact und_nums | with_reducible exact und_w64) one_u32 rfl rfl (by omega) (by omega) ?_ | (refine OW_isLoad ?_; refine OW_loadBk one_u32 rfl (by assumption) _ (by first | assumption | rfl) ?_) | refine OW_sliceA und_nums one_u32 rfl ⟨_, rfl⟩ rfl 1 8 rfl rfl (by decide) (by decide) (by decide) ?_ | refine OW_sliceA und_nums one_u32 rfl rfl ⟨_, rfl⟩ 0 7 rfl rfl (by decide) (by decide) (by decide) ?_ | (refine OW_isLoad ?_; refine OW_loadBk (by first | with_reducible exact one_u8 | with_reducible exact one_bytes | with_reducible exact one_bool | with_reducible exact one_int | with_reducible exact one_errno | with_reducible exact one_u32 | with_reducible exact one_u64 | with_reducible exact one_string) rfl (by apply_assumption; assumption) _ (by first | assumption | rfl) ?_) | refine OW_load1 (by first | with_reducible exact one_u8 | with_reducible exact one_bytes | with_reducible exact one_bool | with_reducible exact one_int | with_reducible exact one_errno | with_reducible exact one_u32 | with_reducible exact one_u64 | with_reducible exact one_string) rfl _ (by apply_assumption; assumption) ?_)
         refine OW_nil ?_
         exact stay_mk _ _ _ _)
    | refine OY_a (actY_of rfl ?_)
    | refine OY_d (actY_of rfl ?_)
    | refine OY_a (actY_pass rfl rfl ?_)
    | refine OY_d (actY_pass rfl rfl ?_)
    | refine OY_a (actY_take rfl rfl ?_)
    | refine OY_d (actY_take rfl rfl ?_))
  exact hEnd.out) (k : B) : A := h ⟨k⟩
section
variable {P : Program} {ops : Array Oper} {Q : Exit → (Nat → Value) → World → Prop} {rest : List Oper} {e : Nat → Value} {w : World} {d : Tmp} {ty : TypeId} {pos : String} {aft : Array Edge}
theorem OW_idxAI {x y : Operand} {t el : TypeId} {g n : Nat} {k : IntKind} {j : Int} (ht : P.underlying t = some (.array n el)) (hel : OneT P el) (hx : ev e x = .pointer (some ⟨g, 0, none⟩)) (hy : ev e y = .int k j) (hj : 0 ≤ j) (hn : j < n)
    (h : OW P ops Q rest (upd e d (.pointer (some ⟨g, j.toNat, none⟩))) w) : OW P ops Q (⟨some d, .indexAddr t x y, ty, pos, aft, none⟩ :: rest) e w :=
  OW_idxAB ht hel hx hy j.toNat (by omega) (by omega) h
end
/-- The schedule as far as it goes. -/
def wL (b : List UInt8) (k : Nat) : List UInt32 := sch b k ++ List.replicate (64 - k) 0
theorem wL_length (b : List UInt8) {k : Nat} (h : k ≤ 64) : (wL b k).length = 64 := by simp [wL, sch_length]; omega
theorem wL_64 (b : List UInt8) : wL b 64 = sch b 64 := by simp [wL]
theorem wL_get {b : List UInt8} {k j : Nat} (hj : j < k) (hk : k ≤ 64) : ((wL b k).map uv).toArray[j]? = some (uv ((sch b k).getD j 0)) := by
  have hl := sch_length b k
  simp only [wL, List.getElem?_toArray, List.getElem?_map, List.getElem?_append_left (show j < (sch b k).length by omega)]
  rw [List.getD_eq_getElem?_getD, List.getElem?_eq_getElem (by omega)]
  rfl
theorem wL_set {b : List UInt8} {k : Nat} (hk : k < 64) : ((wL b k).map uv).toArray.setIfInBounds k (uv (nxt b (sch b k) k)) = ((wL b (k + 1)).map uv).toArray := by
  have hl := sch_length b k
  rw [List.setIfInBounds_toArray]
  congr 1
  have : List.replicate (64 - k) (0 : UInt32) = 0 :: List.replicate (64 - (k + 1)) 0 := by rw [← List.replicate_succ]; congr 1; omega
  simp only [wL, this, sch, List.map_append, List.map_cons, List.map_nil]
  rw [List.set_append_right _ _ (by simp [hl])]
  simp [hl]
theorem ldV_uv (b : List UInt8) (k : Nat) : (.int .u32 ((ldV b (4 * (k : Int)) 4 : Nat) : Int) : Value) = uv (UInt32.ofNat (ldV b ((4 * k : Nat) : Int) 4)) := by
  have h : ldV b ((4 * k : Nat) : Int) 4 < 2 ^ 32 := by have := ldV_lt b ((4 * k : Nat) : Int) 4; simpa using this
  unfold uv
  rw [UInt32.toNat_ofNat', Nat.mod_eq_of_lt h, show (4 * (k : Int)) = ((4 * k : Nat) : Int) by simp]
theorem sum_get {s x : N8} {k : Nat} (hk : k < 8) : (s.add x).l.getD k 0 = s.l.getD k 0 + x.l.getD k 0 := by
  match k, hk with
  | 0, _ => rfl
  | 1, _ => rfl
  | 2, _ => rfl
  | 3, _ => rfl
  | 4, _ => rfl
  | 5, _ => rfl
  | 6, _ => rfl
  | 7, _ => rfl
theorem cells_get {s : N8} {k : Nat} (hk : k < 8) : s.cells.toArray[k]? = some (uv (s.l.getD k 0)) := by
  match k, hk with
  | 0, _ => rfl
  | 1, _ => rfl
  | 2, _ => rfl
  | 3, _ => rfl
  | 4, _ => rfl
  | 5, _ => rfl
  | 6, _ => rfl
  | 7, _ => rfl
/-- The sum as far as it goes. -/
def sL (s x : N8) (k : Nat) : List UInt32 := (s.add x).l.take k ++ s.l.drop k
theorem sL_get {s x : N8} {k : Nat} (hk : k < 8) : ((sL s x k).map uv).toArray[k]? = some (uv (s.l.getD k 0)) := by
  match k, hk with
  | 0, _ => rfl
  | 1, _ => rfl
  | 2, _ => rfl
  | 3, _ => rfl
  | 4, _ => rfl
  | 5, _ => rfl
  | 6, _ => rfl
  | 7, _ => rfl
theorem sL_set {s x : N8} {k : Nat} (hk : k < 8) : ((sL s x k).map uv).toArray.setIfInBounds k (uv (s.l.getD k 0 + x.l.getD k 0)) = ((sL s x (k + 1)).map uv).toArray := by
  match k, hk with
  | 0, _ => rfl
  | 1, _ => rfl
  | 2, _ => rfl
  | 3, _ => rfl
  | 4, _ => rfl
  | 5, _ => rfl
  | 6, _ => rfl
  | 7, _ => rfl
theorem kL_get {k : Nat} (hk : k < 64) : (kL.map uv).toArray[k]? = some (uv (kL.getD k 0)) := by
  have hl : k < kL.length := hk
  simp only [List.getElem?_toArray, List.getElem?_map]
  rw [List.getD_eq_getElem?_getD, List.getElem?_eq_getElem hl]
  rfl
set_option maxHeartbeats 8000000 in
theorem block_any (w : World) (s : N8) (A : Option Addr) (c : Nat) (b : List UInt8) (ha : Bs w A b) (hc : b.length ≤ c) (hl : b.length = 64) :
    Calls Try.prog 96 #[.agg s.cells.toArray, .slice A b.length c] w (RetV w (.agg (blk s b).cells.toArray)) := by
  refine calls_of_CW Try.func96 rfl (by simp [Try.ntmps96]) ?_
  rw [Try.ntmps96]
  refine go_Sha2 (k := ?_)
  refine OW_box _ rfl ?_
  intro w1 g2 hb2 hg2 hl2 hw1
  have hb2 : Blk w1 g2 121 s.cells.toArray := hb2
  refine go_Sha2 (k := ?_)
  refine OW_allocA agg_nums ?_
  intro w2 g4 hb4 hg4 hl4 hw2
  replace hb2 := hb2.ext hw2
  refine go_Sha2 (k := ?_)
  refine OW_allocA agg_w64 ?_
  intro w3 g5 hb5 hg5 hl5 hw3
  replace hb2 := hb2.ext hw3
  replace hb4 := hb4.ext hw3
  have hx3 : Ext w w3 := (hw1.trans' hw2).trans' hw3
  have ha3 := ha.ext hx3
  have n24 : g2 ≠ g4 := by omega
  have n25 : g2 ≠ g5 := by have := hw2.size; omega
  have n45 : g4 ≠ g5 := by omega
  have z2 := hw1.size
  have z3 := hw2.size
  clear hw1 hw2 hw3
  refine go_Sha2 (k := ?_)
  refine CW_meetB (fun e' w' => e' 1 = .slice A b.length c ∧ e' 2 = .pointer (some ⟨g2, 0, none⟩) ∧ e' 4 = .pointer (some ⟨g4, 0, none⟩) ∧ e' 5 = .pointer (some ⟨g5, 0, none⟩) ∧ Blk w' g2 121 s.cells.toArray ∧ Blk w' g4 121 ((List.replicate 8 (0 : UInt32)).map uv).toArray ∧ Blk w' g5 131 ((sch b 64).map uv).toArray ∧ Ext w w') ?_ ?_
  · refine CW_loop (fun e' w' => ∃ k : Nat, k ≤ 64 ∧ e' 15 = .int .i64 k ∧ e' 1 = .slice A b.length c ∧ e' 2 = .pointer (some ⟨g2, 0, none⟩) ∧ e' 4 = .pointer (some ⟨g4, 0, none⟩) ∧ e' 5 = .pointer (some ⟨g5, 0, none⟩) ∧ Blk w' g2 121 s.cells.toArray ∧ Blk w' g4 121 ((List.replicate 8 (0 : UInt32)).map uv).toArray ∧ Blk w' g5 131 ((wL b k).map uv).toArray ∧ Ext w w') (fun e' _ => 64 - (intOf (e' 15)).toNat) ?_ ?_
    · exact ⟨0, by omega, rfl, rfl, rfl, rfl, rfl, hb2, hb4, hb5, hx3⟩
    rintro e' w' ⟨k, hk, q15, q1, q2, q4, q5, r2, r4, r5, hx⟩
    rw [upd_self q15, upd_self q1, upd_self q2, upd_self q4, upd_self q5]
    clear q15 q1 q2 q4 q5
    have haw := ha.ext hx
    refine go_Sha2 (k := ?_)
    refine CW_cond _ rfl (fun hh => ?_) (fun hh => ?_)
    · have hlt : k < 64 := by simp at hh; omega
      clear hh
      refine go_Sha2 (k := ?_)
      refine CW_meetB (fun e'' w'' => e'' 15 = .int .i64 k ∧ e'' 1 = .slice A b.length c ∧ e'' 2 = .pointer (some ⟨g2, 0, none⟩) ∧ e'' 4 = .pointer (some ⟨g4, 0, none⟩) ∧ e'' 5 = .pointer (some ⟨g5, 0, none⟩) ∧ Blk w'' g2 121 s.cells.toArray ∧ Blk w'' g4 121 ((List.replicate 8 (0 : UInt32)).map uv).toArray ∧ Blk w'' g5 131 ((wL b (k + 1)).map uv).toArray ∧ Ext w w'') ?_ ?_
      · refine go_Sha2 (k := ?_)
        refine CW_cond _ rfl (fun h16 => ?_) (fun h16 => ?_)
        · have h16 : k < 16 := by simp at h16; omega
          refine go_Sha2 (k := ?_)
          refine OW_callV Try.func80 (by kernel_rfl) rfl (load32_any w' A b c (4 * (k : Int)) haw hc (by omega) (by omega)) rfl ?_
          intro w4 hw4
          rw [ldV_uv]
          have hn : UInt32.ofNat (ldV b ((4 * k : Nat) : Int) 4) = nxt b (sch b k) k := by unfold nxt; rw [if_pos h16]
          rw [hn]
          refine go_Sha2 (k := ?_)
          refine OW_storeB one_u32 rfl (uv (nxt b (sch b k) k)) rfl rfl (r5.ext hw4) (by simp [wL_length b hk]; exact hlt) ?_
          intro w5 r5' hgr
          rw [wL_set hlt] at r5'
          refine go_Sha2 (k := ?_)
          exact ⟨rfl, rfl, rfl, rfl, rfl, rfl, (r2.ext hw4).only hgr n25, (r4.ext hw4).only hgr n45, r5', below_only (hx.trans' hw4) hgr (by omega) (by have := (hx.trans' hw4).size; omega)⟩
        · have h16 : 16 ≤ k := by simp at h16; omega
          refine go_Sha2 (k := ?_)
          obtain ⟨C, hC⟩ : ∃ C : World → Prop, C = fun v => Blk v g5 131 ((wL b k).map uv).toArray ∧ Ext w' v := ⟨_, rfl⟩
          have y5 : ∀ v, C v → Blk v g5 131 ((wL b k).map uv).toArray := fun v h => by rw [hC] at h; exact h.1
          have yC : ∀ u v, C u → Ext u v → C v := fun u v h hh => by rw [hC] at h ⊢; exact ⟨h.1.ext hh, h.2.trans' hh⟩
          have d2 : ((wL b k).map uv).toArray[((k : Int) - 2).toNat]? = some (uv ((sch b k).getD (k - 2) 0)) := by rw [show ((k : Int) - 2).toNat = k - 2 by omega]; exact wL_get (by omega) hk
          have d7 : ((wL b k).map uv).toArray[((k : Int) - 7).toNat]? = some (uv ((sch b k).getD (k - 7) 0)) := by rw [show ((k : Int) - 7).toNat = k - 7 by omega]; exact wL_get (by omega) hk
          have d15 : ((wL b k).map uv).toArray[((k : Int) - 15).toNat]? = some (uv ((sch b k).getD (k - 15) 0)) := by rw [show ((k : Int) - 15).toNat = k - 15 by omega]; exact wL_get (by omega) hk
          have d16 : ((wL b k).map uv).toArray[((k : Int) - 16).toNat]? = some (uv ((sch b k).getD (k - 16) 0)) := by rw [show ((k : Int) - 16).toNat = k - 16 by omega]; exact wL_get (by omega) hk
          refine CW_tree2 [4, 9, 14, 20] (.p 0 (.p 1 (.p 2 (.p 3 (.q 4 (.p 6 (.p 7 (.p 8 (.q 9 (.p 11 (.p 12 (.p 13 (.q 14 (.p 17 (.p 18 (.p 19 (.q 20 (.a 5 (.p 10 (.a 15 (.p 16 (.p 21 (.p 22 (.d 23 .done)))))))))))))))))))))))) (C) (by kernel_rfl) (by kernel_rfl) (by kernel_rfl) ?_ ?_
          · exact fun v hv => by rw [hC]; exact ⟨r5.ext hv, hv⟩
          intro w4 hx4 hC4
          refine oy_Sha2 (k := ?_)
          refine OW_callV Try.func99 (by kernel_rfl) rfl (small_any w4 _ 17 19 10 (by decide) (by decide) (by decide)) rfl ?_
          intro w5 hw5
          have hC5 := yC _ _ hC4 hw5
          refine OW_nil (goY_mk hC5 ?_)
          refine oy_Sha2 (k := ?_)
          refine OW_callV Try.func99 (by kernel_rfl) rfl (small_any w5 _ 7 18 3 (by decide) (by decide) (by decide)) rfl ?_
          intro w6 hw6
          have hC6 := yC _ _ hC5 hw6
          refine OW_nil (goY_mk hC6 ?_)
          refine oy_Sha2 (k := ?_)
          have hn : nxt b (sch b k) k = smallU ((sch b k).getD (k - 2) 0) 17 19 10 + (sch b k).getD (k - 7) 0 + smallU ((sch b k).getD (k - 15) 0) 7 18 3 + (sch b k).getD (k - 16) 0 := by unfold nxt; rw [if_neg (by omega)]
          have hx6 : Ext w' w6 := by rw [hC] at hC6; exact hC6.2
          refine OW_storeB one_u32 rfl (uv (nxt b (sch b k) k)) (by rw [hn]; rfl) rfl (y5 _ hC6) (by simp [wL_length b hk]; omega) ?_
          intro w7 r5' hgr
          rw [show ((k : Nat) : Int).toNat = k by omega, wL_set hlt] at r5'
          refine OW_nil (goY_done ?_)
          refine go_Sha2 (k := ?_)
          exact ⟨rfl, rfl, rfl, rfl, rfl, rfl, (r2.ext hx6).only hgr n25, (r4.ext hx6).only hgr n45, r5', below_only (hx.trans' hx6) hgr (by omega) (by have := (hx.trans' hx6).size; omega)⟩
      · rintro e'' w'' ⟨q15, q1, q2, q4, q5, r2, r4, r5, hx⟩
        rw [upd_self q15, upd_self q1, upd_self q2, upd_self q4, upd_self q5]
        refine go_Sha2 (k := ?_)
        refine ⟨⟨k + 1, by omega, rfl, rfl, rfl, rfl, rfl, r2, r4, r5, hx⟩, ?_⟩
        show 64 - ((k : Int) + 1).toNat < 64 - (k : Int).toNat
        omega
    · have hlt : k = 64 := by simp at hh; omega
      subst hlt
      refine go_Sha2 (k := ?_)
      rw [wL_64] at r5
      exact ⟨rfl, rfl, rfl, rfl, rfl, r2, r4, r5, hx⟩
  rintro e' w' ⟨q1, q2, q4, q5, r2, r4, r5, hx⟩
  rw [upd_self q1, upd_self q2, upd_self q4, upd_self q5]
  clear q1 q2 q4 q5 hb2 hb4 hb5 ha3 hx3 hl2 hl4 hl5
  have sx := hx.size
  refine go_Sha2 (k := ?_)
  refine OW_loadAB agg_nums rfl s.cells r2 rfl ?_
  refine go_Sha2 (k := ?_)
  have l2 := r2.lt
  have l4 := r4.lt
  have l5 := r5.lt
  refine OW_allocA agg_nums ?_
  intro w1 g7 hb7 hg7 hl7 hw1
  have n27 : g2 ≠ g7 := by omega
  have n47 : g4 ≠ g7 := by omega
  have n57 : g5 ≠ g7 := by omega
  have n7 : w.heap.size ≤ g7 := by omega
  replace r2 := r2.ext hw1
  replace r4 := r4.ext hw1
  replace r5 := r5.ext hw1
  replace hx := hx.trans' hw1
  clear l2 l4 l5 sx hg7 hl7 hw1
  refine go_Sha2 (k := ?_)
  refine OW_storeA agg_nums rfl s.cells rfl rfl hb7 rfl (uv_one _) ?_
  intro w2 r7 hgr
  have sx1 := hx.size
  replace r2 := r2.only hgr n27
  replace r4 := r4.only hgr n47
  replace r5 := r5.only hgr n57
  replace hx : Ext w w2 := below_only hx hgr n7 sx1
  clear hgr hb7
  refine go_Sha2 (k := ?_)
  refine OW_callV Try.func100 (by kernel_rfl) rfl (constants_any w2) rfl ?_
  intro w3 hw3
  replace r2 := r2.ext hw3
  replace r4 := r4.ext hw3
  replace r5 := r5.ext hw3
  replace r7 := r7.ext hw3
  replace hx := hx.trans' hw3
  clear hw3
  refine go_Sha2 (k := ?_)
  refine CW_meetB (fun e' w' => e' 2 = .pointer (some ⟨g2, 0, none⟩) ∧ e' 4 = .pointer (some ⟨g4, 0, none⟩) ∧ e' 7 = .pointer (some ⟨g7, 0, none⟩) ∧ Blk w' g2 121 s.cells.toArray ∧ Blk w' g4 121 ((List.replicate 8 (0 : UInt32)).map uv).toArray ∧ Blk w' g7 121 (rnds b s 64).cells.toArray ∧ Ext w w') ?_ ?_
  · refine CW_loop (fun e' w' => ∃ k : Nat, k ≤ 64 ∧ e' 55 = .int .i64 k ∧ e' 54 = .agg (kL.map uv).toArray ∧ e' 2 = .pointer (some ⟨g2, 0, none⟩) ∧ e' 4 = .pointer (some ⟨g4, 0, none⟩) ∧ e' 5 = .pointer (some ⟨g5, 0, none⟩) ∧ e' 7 = .pointer (some ⟨g7, 0, none⟩) ∧ Blk w' g2 121 s.cells.toArray ∧ Blk w' g4 121 ((List.replicate 8 (0 : UInt32)).map uv).toArray ∧ Blk w' g5 131 ((sch b 64).map uv).toArray ∧ Blk w' g7 121 (rnds b s k).cells.toArray ∧ Ext w w') (fun e' _ => 64 - (intOf (e' 55)).toNat) ?_ ?_
    · exact ⟨0, by omega, rfl, rfl, rfl, rfl, rfl, rfl, r2, r4, r5, r7, hx⟩
    clear r2 r4 r5 r7 hx
    rintro e' w' ⟨k, hk, q55, q54, q2, q4, q5, q7, r2, r4, r5, r7, hx⟩
    rw [upd_self q55, upd_self q54, upd_self q2, upd_self q4, upd_self q5, upd_self q7]
    clear q55 q54 q2 q4 q5 q7
    refine go_Sha2 (k := ?_)
    refine CW_cond _ rfl (fun hh => ?_) (fun hh => ?_)
    · have hlt : k < 64 := by simp at hh; omega
      clear hh
      refine go_Sha2 (k := ?_)
      refine OW_indexA und_w64 one_u32 rfl rfl k rfl hlt (uv (kL.getD k 0)) (kL_get hlt) ?_
      refine go_Sha2 (k := ?_)
      have hstep : rnds b s (k + 1) = rnd (rnds b s k) (kL.getD k 0) ((sch b 64).getD k 0) := rfl
      obtain ⟨X, hX⟩ : ∃ X, rnds b s k = X := ⟨_, rfl⟩
      rw [hX] at r7 hstep
      have dW : ((sch b 64).map uv).toArray[k]? = some (uv ((sch b 64).getD k 0)) := by have := wL_get (b := b) (k := 64) (j := k) hlt (Nat.le_refl _); rwa [wL_64] at this
      obtain ⟨W, hW⟩ : ∃ W, sch b 64 = W := ⟨_, rfl⟩
      rw [hW] at r5 hstep dW
      obtain ⟨K, hK⟩ : ∃ K, kL.getD k 0 = K := ⟨_, rfl⟩
      rw [hK] at hstep ⊢
      obtain ⟨cx, hcx⟩ : ∃ cx, X.cells.toArray = cx := ⟨_, rfl⟩
      obtain ⟨cw, hcw⟩ : ∃ cw, (W.map uv).toArray = cw := ⟨_, rfl⟩
      have x0 : cx[0]? = some (uv X.a) := by rw [← hcx]; rfl
      have x1 : cx[1]? = some (uv X.b) := by rw [← hcx]; rfl
      have x2 : cx[2]? = some (uv X.c) := by rw [← hcx]; rfl
      have x4 : cx[4]? = some (uv X.e) := by rw [← hcx]; rfl
      have x5 : cx[5]? = some (uv X.f) := by rw [← hcx]; rfl
      have x6 : cx[6]? = some (uv X.g) := by rw [← hcx]; rfl
      have x7 : cx[7]? = some (uv X.h) := by rw [← hcx]; rfl
      rw [hcx] at r7
      rw [hcw] at r5 dW
      obtain ⟨C, hC⟩ : ∃ C : World → Prop, C = fun v => Blk v g2 121 s.cells.toArray ∧ Blk v g4 121 ((List.replicate 8 (0 : UInt32)).map uv).toArray ∧ Blk v g5 131 cw ∧ Blk v g7 121 cx ∧ Ext w v := ⟨_, rfl⟩
      have y5 : ∀ v, C v → Blk v g5 131 cw := fun v h => by rw [hC] at h; exact h.2.2.1
      have y7 : ∀ v, C v → Blk v g7 121 cx := fun v h => by rw [hC] at h; exact h.2.2.2.1
      have yC : ∀ u v, C u → Ext u v → C v := fun u v h hh => by rw [hC] at h ⊢; exact ⟨h.1.ext hh, h.2.1.ext hh, h.2.2.1.ext hh, h.2.2.2.1.ext hh, h.2.2.2.2.trans' hh⟩
      have hC0 : C w' := by rw [hC]; exact ⟨r2, r4, r5, r7, hx⟩
      clear r2 r4 r5 r7 hx
      have hid : Held (rnds b s (k + 1) = rnd X K (W.getD k 0) ∧ X.cells.toArray = cx ∧ ((sch b 64).map uv).toArray = cw) := ⟨hstep, hcx, by rw [hW]; exact hcw⟩
      clear hstep hK hW hX hcx hcw
      refine CW_tree2 [1, 3] (.p 0 (.q 1 (.p 2 (.q 3 (.p 4 (.p 5 .done)))))) (C) (by kernel_rfl) (by kernel_rfl) (by kernel_rfl) ?_ ?_
      · exact fun v hv => yC _ _ hC0 hv
      intro w4 hx4 hC4
      refine oy_Sha2 (k := ?_)
      refine go_Sha2 (k := ?_)
      refine CW_tree2 [1, 7, 12, 20] (.p 0 (.q 1 (.p 2 (.p 5 (.p 6 (.q 7 (.p 8 (.p 9 (.p 10 (.p 11 (.q 12 (.p 13 (.p 14 (.p 16 (.p 18 (.p 19 (.q 20 (.a 3 (.p 4 (.p 15 (.p 17 (.p 21 (.p 22 .done))))))))))))))))))))))) (C) (by kernel_rfl) (by kernel_rfl) (by kernel_rfl) ?_ ?_
      · exact fun v hv => yC _ _ hC4 hv
      intro w5 hx5 hC5
      refine oy_Sha2 (k := ?_)
      refine OW_callV Try.func101 (by kernel_rfl) rfl (turned_any w5 _ 6 11 25 (by decide) (by decide) (by decide)) rfl ?_
      intro w6 hw6
      have hC6 := yC _ _ hC5 hw6
      refine OW_nil (goY_mk hC6 ?_)
      refine oy_Sha2 (k := ?_)
      refine go_Sha2 (k := ?_)
      refine CW_tree2 [4, 8, 12, 14] (.p 0 (.p 2 (.p 3 (.q 4 (.p 5 (.p 6 (.p 7 (.q 8 (.p 9 (.p 10 (.p 11 (.q 12 (.p 13 (.q 14 (.p 15 (.p 16 (.a 1 (.p 17 (.p 18 .done))))))))))))))))))) (C) (by kernel_rfl) (by kernel_rfl) (by kernel_rfl) ?_ ?_
      · exact fun v hv => yC _ _ hC6 hv
      intro w7 hx7 hC7
      refine oy_Sha2 (k := ?_)
      refine OW_callV Try.func101 (by kernel_rfl) rfl (turned_any w7 _ 2 13 22 (by decide) (by decide) (by decide)) rfl ?_
      intro w8 hw8
      have hC8 := yC _ _ hC7 hw8
      refine OW_nil (goY_mk hC8 ?_)
      refine oy_Sha2 (k := ?_)
      refine go_Sha2 (k := ?_)
      refine CW_tree2 [] (.p 0 (.p 1 (.d 2 .done))) (C) (by kernel_rfl) (by kernel_rfl) (by kernel_rfl) ?_ ?_
      · exact fun v hv => yC _ _ hC8 hv
      intro w9 hx9 hC9
      refine oy_Sha2 (k := ?_)
      obtain ⟨hstep, hcx, hcw⟩ := hid.out
      have r7 := y7 _ hC9
      rw [hC] at hC9
      obtain ⟨r2, r4, r5, _, hx⟩ := hC9
      have l7 := r7.lt
      have sx := hx.size
      rw [← hcx] at r7
      refine OW_copyR und_u32s one_u32 rfl rfl r7 ((X.l.take 7).map uv) (fun j u hu => r7.atL j u ?_) rfl (Nat.le_refl 8) (uv_one _) ?_
      · rw [List.map_take, List.getElem?_take] at hu
        split at hu
        · exact hu
        · cases hu
      intro w10 r7' hgr
      replace r2 := r2.only hgr n27
      replace r4 := r4.only hgr n47
      replace r5 := r5.only hgr n57
      replace hx : Ext w w10 := below_only hx hgr n7 sx
      clear hgr sx r7
      replace r7' : Blk w10 g7 121 (([X.a, X.a, X.b, X.c, X.d, X.e, X.f, X.g] : List UInt32).map uv).toArray := r7'
      refine OW_nil (goY_done ?_)
      refine go_Sha2 (k := ?_)
      refine OW_storeB one_u32 rfl (uv (one8 X K (W.getD k 0) + two8 X)) rfl rfl r7' (by show (0 : Nat) < 8; omega) ?_
      intro w11 r7 hgr
      have sx := hx.size
      replace r2 := r2.only hgr n27
      replace r4 := r4.only hgr n47
      replace r5 := r5.only hgr n57
      replace hx : Ext w w11 := below_only hx hgr n7 sx
      clear hgr sx r7'
      replace r7 : Blk w11 g7 121 (([one8 X K (W.getD k 0) + two8 X, X.a, X.b, X.c, X.d, X.e, X.f, X.g] : List UInt32).map uv).toArray := r7
      refine go_Sha2 (k := ?_)
      refine OW_storeB one_u32 rfl (uv (X.d + one8 X K (W.getD k 0))) rfl rfl r7 (by show (4 : Nat) < 8; omega) ?_
      intro w12 r7' hgr
      have sx := hx.size
      replace r2 := r2.only hgr n27
      replace r4 := r4.only hgr n47
      replace r5 := r5.only hgr n57
      replace hx : Ext w w12 := below_only hx hgr n7 sx
      clear hgr sx r7
      replace r7' : Blk w12 g7 121 (rnds b s (k + 1)).cells.toArray := by rw [hstep]; exact r7'
      rw [← hcw] at r5
      refine go_Sha2 (k := ?_)
      refine ⟨⟨k + 1, hlt, rfl, rfl, rfl, rfl, rfl, rfl, r2, r4, r5, r7', hx⟩, ?_⟩
      show 64 - ((k : Int) + 1).toNat < 64 - (k : Int).toNat
      omega
    · have hlt : k = 64 := by simp at hh; omega
      subst hlt
      refine go_Sha2 (k := ?_)
      exact ⟨rfl, rfl, rfl, rfl, r2, r4, r7, hx⟩
  clear r2 r4 r5 r7 hx
  rintro e' w' ⟨q2, q4, q7, r2, r4, r7, hx⟩
  rw [upd_self q2, upd_self q4, upd_self q7]
  clear q2 q4 q7
  obtain ⟨X, hX⟩ : ∃ X, rnds b s 64 = X := ⟨_, rfl⟩
  rw [hX] at r7
  have hid : Held (rnds b s 64 = X) := ⟨hX⟩
  clear hX
  refine go_Sha2 (k := ?_)
  refine CW_meetB (fun e' w' => e' 2 = .pointer (some ⟨g2, 0, none⟩) ∧ e' 4 = .pointer (some ⟨g4, 0, none⟩) ∧ Blk w' g2 121 (s.add X).cells.toArray ∧ Blk w' g4 121 ((List.replicate 8 (0 : UInt32)).map uv).toArray ∧ Ext w w') ?_ ?_
  · refine CW_loop (fun e' w' => ∃ k : Nat, k ≤ 8 ∧ e' 116 = .int .i64 k ∧ e' 2 = .pointer (some ⟨g2, 0, none⟩) ∧ e' 4 = .pointer (some ⟨g4, 0, none⟩) ∧ e' 7 = .pointer (some ⟨g7, 0, none⟩) ∧ Blk w' g2 121 ((sL s X k).map uv).toArray ∧ Blk w' g4 121 ((List.replicate 8 (0 : UInt32)).map uv).toArray ∧ Blk w' g7 121 X.cells.toArray ∧ Ext w w') (fun e' _ => 8 - (intOf (e' 116)).toNat) ?_ ?_
    · exact ⟨0, by omega, rfl, rfl, rfl, rfl, r2, r4, r7, hx⟩
    clear r2 r4 r7 hx
    rintro e' w' ⟨k, hk, q116, q2, q4, q7, r2, r4, r7, hx⟩
    rw [upd_self q116, upd_self q2, upd_self q4, upd_self q7]
    clear q116 q2 q4 q7
    refine go_Sha2 (k := ?_)
    refine CW_cond _ rfl (fun hh => ?_) (fun hh => ?_)
    · have hlt : k < 8 := by simp at hh; omega
      clear hh
      refine go_Sha2 (k := ?_)
      obtain ⟨C, hC⟩ : ∃ C : World → Prop, C = fun v => Blk v g2 121 ((sL s X k).map uv).toArray ∧ Blk v g4 121 ((List.replicate 8 (0 : UInt32)).map uv).toArray ∧ Blk v g7 121 X.cells.toArray ∧ Ext w v := ⟨_, rfl⟩
      have yC : ∀ v, Ext w' v → C v := fun v h => by rw [hC]; exact ⟨r2.ext h, r4.ext h, r7.ext h, hx.trans' h⟩
      obtain ⟨c2, hc2⟩ : ∃ c2, ((sL s X k).map uv).toArray = c2 := ⟨_, rfl⟩
      obtain ⟨c7, hc7⟩ : ∃ c7, X.cells.toArray = c7 := ⟨_, rfl⟩
      have y2 : ∀ v, C v → Blk v g2 121 c2 := fun v h => by rw [hC] at h; rw [← hc2]; exact h.1
      have y7 : ∀ v, C v → Blk v g7 121 c7 := fun v h => by rw [hC] at h; rw [← hc7]; exact h.2.2.1
      have d2 : c2[k]? = some (uv (s.l.getD k 0)) := by rw [← hc2]; exact sL_get hlt
      have d7 : c7[k]? = some (uv (X.l.getD k 0)) := by rw [← hc7]; exact cells_get hlt
      clear r2 r4 r7 hx
      refine CW_tree2 [2, 5] (.p 0 (.p 1 (.q 2 (.p 3 (.p 4 (.q 5 (.p 6 (.p 7 (.d 8 .done))))))))) (C) (by kernel_rfl) (by kernel_rfl) (by kernel_rfl) ?_ ?_
      · exact yC
      intro w4 hx4 hC4
      refine oy_Sha2 (k := ?_)
      rw [hC] at hC4
      obtain ⟨r2, r4, r7, hx⟩ := hC4
      have l2 := r2.lt
      have l4 := r4.lt
      have l7 := r7.lt
      refine OW_storeB one_u32 rfl (uv (s.l.getD k 0 + X.l.getD k 0)) rfl rfl r2 (by simp [sL, N8.l]; omega) ?_
      intro w5 r2' hgr
      rw [show ((k : Nat) : Int).toNat = k by omega, sL_set hlt] at r2'
      have sx := hx.size
      replace r4 := r4.only hgr (Ne.symm n24)
      replace r7 := r7.only hgr (Ne.symm n27)
      replace hx : Ext w w5 := below_only hx hgr (by omega) sx
      refine OW_nil (goY_done ?_)
      refine go_Sha2 (k := ?_)
      refine ⟨⟨k + 1, by omega, rfl, rfl, rfl, rfl, r2', r4, r7, hx⟩, ?_⟩
      show 8 - ((k : Int) + 1).toNat < 8 - (k : Int).toNat
      omega
    · have hlt : k = 8 := by simp at hh; omega
      subst hlt
      refine go_Sha2 (k := ?_)
      exact ⟨rfl, rfl, rfl, r2, r4, hx⟩
  clear r2 r4 r7 hx
  rintro e' w' ⟨q2, q4, r2, r4, hx⟩
  rw [upd_self q2, upd_self q4]
  clear q2 q4
  have hb : s.add X = blk s b := by unfold blk; rw [hid.out]
  rw [hb] at r2
  refine go_Sha2 (k := ?_)
  refine OW_loadAB agg_nums rfl (blk s b).cells r2 rfl ?_
  refine go_Sha2 (k := ?_)
  refine OW_storeA agg_nums rfl (blk s b).cells rfl rfl r4 rfl (uv_one _) ?_
  intro w2 r4' hgr
  refine go_Sha2 (k := ?_)
  exact bodyE_retc rfl agg_nums rfl (blk s b).cells rfl r4'.range ⟨rfl, below_only hx hgr (by omega) hx.size⟩
end Go.Proofs.Ytnfeibbnjdegfaa

/- The blocks of some bytes, as an iterator. -/
namespace Go.Proofs.Ytnfeibbnjdegfaa
open Go Go.RowKit
set_option linter.unusedVariables false
set_option maxRecDepth 4000
theorem go_ShaI {A B : Prop} (h : Held B → A := by
  intro hEnd
  repeat (first | refine OW_geqT rfl rfl (by omega) ?_ | refine OW_geqF rfl rfl (by omega) ?_ | (refine OW_isLoad ?_; refine OW_loadBk one_bytes rfl (by assumption) _ rfl ?_) | refine OW_moveV (.int _ _) rfl ?_ | refine OW_moveV (.slice _ _ _) rfl ?_ | refine OW_moveV (.bool _) rfl ?_ | refine OW_moveV (.pointer _) rfl ?_ | refine OW_moveV (.string _) rfl ?_ | refine OW_moveV (.agg _) rfl ?_ | refine OW_moveV (.tuple _) rfl ?_ | refine OW_nil ?_ | refine thenE_normal ?_ | refine CW_seq ?_ | refine CW_region (by kernel_rfl) ?_ | refine OW_assignV (.int _ _) rfl ?_ | refine OW_assignV (.slice _ _ _) rfl ?_ | refine OW_assignV (.bool _) rfl ?_ | refine OW_assignV (.pointer _) rfl ?_ | refine OW_assignV (.string _) rfl ?_ | refine OW_assignV (.agg _) rfl ?_ | refine OW_assignV (.tuple _) rfl ?_ | refine OW_addI rfl rfl (by omega) ?_ | refine OW_subI rfl rfl (by omega) ?_ | refine OW_mulI rfl rfl (by omega) ?_ | refine OW_lss rfl rfl ?_ | refine OW_extract rfl rfl ?_ | refine OW_gtr rfl rfl ?_ | refine OW_leq rfl rfl ?_ | refine OW_geq rfl rfl ?_ | refine OW_eql rfl rfl ?_ | refine OW_neq rfl rfl ?_ | refine OW_not rfl ?_ | refine OW_pickT rfl _ rfl ?_ | refine OW_pickF rfl (.bool _) rfl ?_ | refine OW_pickB rfl rfl rfl ?_ | refine OW_move ?_ | refine OW_assign ?_ | refine OW_pass rfl ?_ | refine OW_take rfl ?_ | refine OW_lenS (by first | with_reducible exact und_bytes | with_reducible exact und_bytess) rfl ?_ | refine OW_convInt (by first | with_reducible exact und_u8 | with_reducible exact und_u64 | with_reducible exact und_int | with_reducible exact und_u32) (by first | with_reducible exact und_u8 | with_reducible exact und_u64 | with_reducible exact und_int | with_reducible exact und_u32) rfl ?_ | refine OW_add rfl rfl ?_ | refine OW_sub rfl rfl ?_ | refine OW_mul rfl rfl ?_ | refine OW_min2 rfl rfl ?_ | refine OW_max2 rfl rfl ?_ | refine OW_neg rfl ?_ | refine CW_block ?_ | refine CW_condT rfl ?_ | refine CW_condF rfl ?_ | refine CW_exit ?_ | refine CW_ret ?_ | refine CW_skip ?_ | refine LW_seq ?_ | refine LW_regC ?_ | refine LW_condC ?_ | refine LW_regF ?_ | refine LW_condF ?_ | refine FW_seq ?_ | refine FW_region (by kernel_rfl) ?_ | refine FW_block ?_ | refine FW_condT rfl ?_ | refine FW_condF rfl ?_ | refine FW_exit ?_ | refine FW_ret ?_ | refine FW_skip ?_ | refine LW_ret ?_ | refine LW_skip ?_ | refine thenE_exit ?_ | refine thenE_ret ?_ | refine inBlockE_normal ?_ | refine inBlockE_same ?_ | refine inBlockE_ret ?_ | refine inBlockE_ne (by rfl) ?_ | refine OW_eqlB (by with_reducible exact und_bool) rfl rfl ?_ | refine OW_neqB (by with_reducible exact und_bool) rfl rfl ?_ | refine OW_idxS (by with_reducible exact und_bytes) one_u8 rfl rfl _ rfl (by omega) ?_ | refine OW_idxS (by with_reducible exact und_bytess) one_bytes rfl rfl _ rfl (by omega) ?_ | refine OW_load1 (by first | with_reducible exact one_u8 | with_reducible exact one_bytes) rfl _ (by assumption) ?_)
  exact hEnd.out) (k : B) : A := h ⟨k⟩
section
variable {P : Program} {ops : Array Oper} {Q : Exit → (Nat → Value) → World → Prop} {rest : List Oper} {e : Nat → Value} {w : World} {d : Tmp} {ty : TypeId} {pos : String} {aft : Array Edge}
theorem OWF_pre : ∀ (pre : List Oper) {e : Nat → Value} {w : World}, OW P ops (fun _ e' w' => OWF P ops Q rest e' w') pre e w → OWF P ops Q (pre ++ rest) e w
  | [], e, w, h => by unfold OW at h; exact h
  | o :: pre, e, w, h => by
    refine OWF_one ?_
    unfold OW at h ⊢
    split
    · rename_i hw
      rw [if_pos hw] at h
      exact opW_mono h fun v w' hv => by unfold OW; exact OWF_pre pre hv
    · rename_i hw
      rw [if_neg hw] at h
      unfold OW
      exact OWF_pre pre h
theorem OWF_take (k : Nat) {l : List Oper} (h : OW P ops (fun _ e' w' => OWF P ops Q (l.drop k) e' w') (l.take k) e w) : OWF P ops Q l e w := by
  have := OWF_pre (l.take k) h
  rwa [List.take_append_drop] at this
theorem OW_geqT {x y : Operand} {t t' : TypeId} {k : IntKind} {a b : Int} (hx : ev e x = .int k a) (hy : ev e y = .int k b) (hh : b ≤ a) (h : OW P ops Q rest (upd e d (.bool true)) w) : OW P ops Q (⟨some d, .binOp .geq t x y t', ty, pos, aft, none⟩ :: rest) e w :=
  OW_geq hx hy (by rw [decide_eq_true hh]; exact h)
theorem OW_geqF {x y : Operand} {t t' : TypeId} {k : IntKind} {a b : Int} (hx : ev e x = .int k a) (hy : ev e y = .int k b) (hh : a < b) (h : OW P ops Q rest (upd e d (.bool false)) w) : OW P ops Q (⟨some d, .binOp .geq t x y t', ty, pos, aft, none⟩ :: rest) e w :=
  OW_geq hx hy (by rw [decide_eq_false (by omega)]; exact h)
end
theorem cutA_block {A : Option Addr} {m l : Nat} {ad : Addr} (h : cutA A m l = some ad) : ∃ a0, A = some a0 ∧ ad.block = a0.block := by
  unfold cutA at h
  split at h
  · exact ⟨ad, h, rfl⟩
  · cases A with
    | none => cases h
    | some a => exact ⟨a, rfl, by cases h; exact addr_add_block a l⟩
section
variable {P : Program} {ops : Array Oper} {Q : Exit → (Nat → Value) → World → Prop} {rest : List Oper} {e : Nat → Value} {w : World} {d : Tmp} {ty : TypeId} {pos : String} {aft : Array Edge}
/-- A cut of bytes: it stands in the same block. -/
theorem OW_sliceBb {x : Operand} {t el : TypeId} {A : Option Addr} {n c : Nat} {l : List UInt8} {lo hi : Option Operand} {lv hv : Int} (ht : P.underlying t = some (.slice el)) (hel : OneT P el) (hbs : Bs w A l) (hn : n = l.length) (hc : n ≤ c) (hx : ev e x = .slice A n c)
    (hlo : bnd e lo 0 lv) (hhi : bnd e hi n hv) (lN hN : Nat) (hl : lv = (lN : Int)) (hh : hv = (hN : Int)) (hb : lN ≤ hN ∧ hN ≤ n)
    (h : ∀ A', Bs w A' ((l.drop lN).take (hN - lN)) → (∀ ad, A' = some ad → ∃ a0, A = some a0 ∧ ad.block = a0.block) → OW P ops Q rest (upd e d (.slice A' (hN - lN) (c - lN))) w) : OW P ops Q (⟨some d, .slice t x lo hi none, ty, pos, aft, none⟩ :: rest) e w := by
  subst hl; subst hh
  have := h (cutA A c lN) (hbs.cut c lN (hN - lN) (by omega)) (fun ad ha => cutA_block ha)
  exact OW_slice (mx := none) (mv := c) ht hel hx hlo hhi rfl (fun h => by cases h) (by omega) (by simpa using this)
end
def okB (L : List UInt8) (dA : Option Addr) (pre : List BV) (x : BV) (w : World) : Prop :=
  Bs w x.1 x.2.2 ∧ x.2.2 = chunk L pre.length ∧ pre.length < L.length / 64 ∧ 64 ≤ x.2.1 ∧ ∀ ad, x.1 = some ad → ∃ a0, dA = some a0 ∧ ad.block = a0.block
def nB (L : List UInt8) (gB : Nat) (dA : Option Addr) (k : Nat) : Prop := k = gB ∨ (L ≠ [] ∧ ∃ ad, dA = some ad ∧ ad.block = k)
def preB (L : List UInt8) (gB : Nat) (dA : Option Addr) (c : Nat) (W : World) : Prop := Blk W gB 31 #[.slice dA L.length c] ∧ Bs W dA L ∧ L.length ≤ c ∧ ∀ ad, dA = some ad → ad.block ≠ gB
def lenAt (w : World) (g : Nat) : Nat := match w.cell? ⟨g, 0, none⟩ with | some (.slice _ n _) => n | _ => 0
theorem lenAt_of {w : World} {g n c : Nat} {A : Option Addr} {T : TypeId} (h : Blk w g T #[.slice A n c]) : lenAt w g = n := by
  unfold lenAt
  rw [h.cell]
  rfl
set_option maxHeartbeats 4000000 in
theorem blocks_iter (L : List UInt8) (gB : Nat) (dA : Option Addr) (c : Nat) :
    Iter Try.prog 98 [.pointer (some ⟨gB, 0, none⟩)] (fun x : BV => [sv x]) (okB L dA) (· = gB) (nB L gB dA) (preB L gB dA c) (fun xs => xs.length = L.length / 64) (fun _ => True) where
  ok := by
    rintro pre x A B ⟨h1, h2, h3, h4, h5⟩ hk
    refine ⟨h1.keeps hk fun ad ha hn => hn ?_, h2, h3, h4, h5⟩
    obtain ⟨a0, h6, h7⟩ := h5 ad ha
    refine .inr ⟨fun h0 => ?_, a0, h6, h7.symm⟩
    rw [h0] at h3
    simp at h3
  run := by
    intro l J Jx W hP hJ hJx hy hJ0
    obtain ⟨hB0, hb0, hc0, hd⟩ := hP
    refine calls_of_LW Try.func98 rfl (by simp [Try.ntmps98]) ?_
    refine LW_codeF (FW_block ?_)
    refine FW_loop (fun e w => ∃ (xs : List BV) (A : Option Addr) (n c2 : Nat) (T : List UInt8), e 0 = .func (.yield l) #[] #[] ∧ e 1 = .pointer (some ⟨gB, 0, none⟩) ∧ Blk w gB 31 #[.slice A n c2] ∧ n = L.length - 64 * xs.length ∧ 64 * xs.length ≤ L.length ∧ n ≤ c2 ∧ T = L.drop (64 * xs.length) ∧ Bs w A T ∧ (∀ ad, A = some ad → ∃ a0, dA = some a0 ∧ ad.block = a0.block) ∧ J xs w) (fun e w => lenAt w gB) ?_ ?_
    · exact ⟨[], dA, L.length, c, L, rfl, rfl, hB0, by simp, by simp, hc0, by simp, hb0, fun ad h => ⟨ad, h, rfl⟩, hJ0⟩
    rintro e w ⟨xs, A, n, c2, T, e0, e1, hB, hn, hle, hc, hT, hb, hA, hj⟩
    rw [upd_self e0, upd_self e1]
    have hm := lenAt_of hB
    have hTl : T.length = n := by rw [hT, List.length_drop]; omega
    refine FW_seq (FW_seq ?_)
    rcases Nat.lt_or_ge n 64 with hlt | hge
    · refine FW_region (by kernel_rfl) ?_
      refine go_ShaI (k := ?_)
      exact LW_end (leave_of (bodyE_end (bodyE_ret0 rfl ⟨_, rfl, .inl ⟨xs, by omega, hj⟩⟩)))
    · refine FW_regionF (by kernel_rfl) ?_
      refine OWF_take 7 ?_
      simp only [List.take_succ_cons, List.take_zero, List.drop_succ_cons, List.drop_zero]
      refine go_ShaI (k := ?_)
      refine OW_sliceBb und_bytes one_u8 hb hTl.symm hc rfl rfl ⟨_, rfl⟩ 0 64 rfl rfl (by omega) ?_
      intro A2 hb2 hA2
      have hch : (T.drop 0).take (64 - 0) = chunk L xs.length := by rw [hT]; rfl
      have hlc : (chunk L xs.length).length = 64 := chunk_length (by omega)
      rw [hch] at hb2
      refine OW_nil ?_
      have hok : okB L dA xs (A2, c2 - 0, chunk L xs.length) w := ⟨hb2, rfl, by omega, by show 64 ≤ c2 - 0; omega, fun ad ha => by
        obtain ⟨a0, h1, h2⟩ := hA2 ad ha
        obtain ⟨a1, h3, h4⟩ := hA a0 h1
        exact ⟨a1, h3, h2.trans h4⟩⟩
      have hsv : Value.slice A2 (64 - 0) (c2 - 0) = sv (A2, c2 - 0, chunk L xs.length) := by unfold sv; rw [hlc]
      rw [hsv]
      refine OWF_yield rfl rfl rfl ((hy xs _ w hj hok).mono ?_)
      rintro en w1 (⟨rfl, hj1, hk1⟩ | ⟨rfl, hj1⟩)
      · refine ⟨_, rfl, ?_⟩
        refine OWF_take 1 ?_
        simp only [List.take_succ_cons, List.take_zero, List.drop_succ_cons, List.drop_zero]
        refine go_ShaI (k := ?_)
        refine OWF_nil ?_
        refine go_ShaI (k := ?_)
        have hBd : ∀ ad, A = some ad → ad.block ≠ gB := fun ad ha => by
          obtain ⟨a0, h1, h2⟩ := hA ad ha
          rw [h2]; exact hd a0 h1
        have hne : L ≠ [] := fun h => by rw [h] at hn; simp at hn; omega
        have hN : ∀ k, nB L gB dA k → ¬ ¬ nB L gB dA k := fun k h hn => hn h
        have hB1 := hB.keeps hk1 (hN gB (.inl rfl))
        have hb1 := hb.keeps hk1 (fun ad ha => hN _ (.inr ⟨hne, by obtain ⟨a0, h1, h2⟩ := hA ad ha; exact ⟨a0, h1, h2.symm⟩⟩))
        refine OW_isLoad ?_
        refine OW_loadBk one_bytes rfl hB1 (.slice A n c2) rfl ?_
        refine OW_sliceBb und_bytes one_u8 hb1 hTl.symm hc rfl ⟨_, rfl⟩ rfl 64 n rfl rfl (by omega) ?_
        intro A3 hb3 hA3
        refine go_ShaI (k := ?_)
        refine OW_storeB one_bytes rfl (.slice A3 (n - 64) (c2 - 64)) rfl rfl hB1 (Nat.one_pos) ?_
        intro w2 hB2 hgr
        have hk2 : Keeps w1 w2 (· = gB) := Keeps.of_only hgr rfl
        refine go_ShaI (k := ?_)
        refine ⟨⟨xs ++ [(A2, c2 - 0, chunk L xs.length)], A3, n - 64, c2 - 64, T.drop 64, rfl, rfl, hB2, by simp; omega, by simp; omega, by omega, by rw [hT, List.drop_drop]; congr 1; simp; omega, ?_, ?_, hJ _ _ _ hj1 hk2⟩, ?_⟩
        · rw [List.take_of_length_le (by simp; omega)] at hb3
          refine hb3.keeps hk2 (fun ad ha => ?_)
          obtain ⟨a0, h1, h2⟩ := hA3 ad ha
          rw [h2]; exact hBd a0 h1
        · intro ad ha
          obtain ⟨a0, h1, h2⟩ := hA3 ad ha
          obtain ⟨a1, h3, h4⟩ := hA a0 h1
          exact ⟨a1, h3, h2.trans h4⟩
        · rw [lenAt_of hB2, hm]; omega
      · refine ⟨_, rfl, ?_⟩
        refine OWF_take 1 ?_
        simp only [List.take_succ_cons, List.take_zero, List.drop_succ_cons, List.drop_zero]
        refine go_ShaI (k := ?_)
        refine OWF_nil ?_
        refine go_ShaI (k := ?_)
        exact LW_end (leave_of (bodyE_end (bodyE_ret0 rfl ⟨_, rfl, .inr ⟨_, trivial, hj1⟩⟩)))
end Go.Proofs.Ytnfeibbnjdegfaa

/- Walks: a Hash that was made: New, none, Len, blocks. -/
namespace Go.Proofs.Ytnfeibbnjdegfaa
open Go Go.RowKit
set_option linter.unusedVariables false
set_option maxRecDepth 4000
theorem go_Sha3 {A B : Prop} (h : Held B → A := by
  intro hEnd
  repeat (first | refine OW_nilCheck rfl ?_ | refine OW_fieldB fldo_H0 rfl ?_ | refine OW_fieldB fldo_H1 rfl ?_ | refine OW_fieldB fldo_H2 rfl ?_ | refine OW_fieldB fldo_H3 rfl ?_ | refine OW_eqlNil und_pH rfl ?_ | refine OW_moveV (.int _ _) rfl ?_ | refine OW_moveV (.slice _ _ _) rfl ?_ | refine OW_moveV (.bool _) rfl ?_ | refine OW_moveV (.pointer _) rfl ?_ | refine OW_moveV (.string _) rfl ?_ | refine OW_moveV (.agg _) rfl ?_ | refine OW_moveV (.tuple _) rfl ?_ | refine OW_nil ?_ | refine thenE_normal ?_ | refine CW_seq ?_ | refine CW_region (by kernel_rfl) ?_ | refine OW_assignV (.int _ _) rfl ?_ | refine OW_assignV (.slice _ _ _) rfl ?_ | refine OW_assignV (.bool _) rfl ?_ | refine OW_assignV (.pointer _) rfl ?_ | refine OW_assignV (.string _) rfl ?_ | refine OW_assignV (.agg _) rfl ?_ | refine OW_assignV (.tuple _) rfl ?_ | refine OW_addI rfl rfl (by omega) ?_ | refine OW_subI rfl rfl (by omega) ?_ | refine OW_mulI rfl rfl (by omega) ?_ | refine OW_lss rfl rfl ?_ | refine OW_extract rfl rfl ?_ | refine OW_gtr rfl rfl ?_ | refine OW_leq rfl rfl ?_ | refine OW_geq rfl rfl ?_ | refine OW_eql rfl rfl ?_ | refine OW_neq rfl rfl ?_ | refine OW_not rfl ?_ | refine OW_pickT rfl _ rfl ?_ | refine OW_pickF rfl (.bool _) rfl ?_ | refine OW_pickB rfl rfl rfl ?_ | refine OW_move ?_ | refine OW_assign ?_ | refine OW_pass rfl ?_ | refine OW_take rfl ?_ | refine OW_lenS (by first | with_reducible exact und_bytes | with_reducible exact und_bytess) rfl ?_ | refine OW_convInt (by first | with_reducible exact und_u8 | with_reducible exact und_u64 | with_reducible exact und_int | with_reducible exact und_u32) (by first | with_reducible exact und_u8 | with_reducible exact und_u64 | with_reducible exact und_int | with_reducible exact und_u32) rfl ?_ | refine OW_add rfl rfl ?_ | refine OW_sub rfl rfl ?_ | refine OW_mul rfl rfl ?_ | refine OW_min2 rfl rfl ?_ | refine OW_max2 rfl rfl ?_ | refine OW_neg rfl ?_ | refine CW_block ?_ | refine CW_condT rfl ?_ | refine CW_condF rfl ?_ | refine CW_exit ?_ | refine CW_ret ?_ | refine CW_skip ?_ | refine LW_seq ?_ | refine LW_regC ?_ | refine LW_condC ?_ | refine LW_regF ?_ | refine LW_condF ?_ | refine FW_seq ?_ | refine FW_region (by kernel_rfl) ?_ | refine FW_block ?_ | refine FW_condT rfl ?_ | refine FW_condF rfl ?_ | refine FW_exit ?_ | refine FW_ret ?_ | refine FW_skip ?_ | refine LW_ret ?_ | refine LW_skip ?_ | refine thenE_exit ?_ | refine thenE_ret ?_ | refine inBlockE_normal ?_ | refine inBlockE_same ?_ | refine inBlockE_ret ?_ | refine inBlockE_ne (by rfl) ?_ | refine OW_eqlB (by with_reducible exact und_bool) rfl rfl ?_ | refine OW_neqB (by with_reducible exact und_bool) rfl rfl ?_ | refine OW_idxS (by with_reducible exact und_bytes) one_u8 rfl rfl _ rfl (by omega) ?_ | refine OW_idxS (by with_reducible exact und_bytess) one_bytes rfl rfl _ rfl (by omega) ?_ | refine OW_load1 (by first | with_reducible exact one_u8 | with_reducible exact one_bytes) rfl _ (by assumption) ?_)
  exact hEnd.out) (k : B) : A := h ⟨k⟩
section
variable {P : Program} {ops : Array Oper} {Q : Exit → (Nat → Value) → World → Prop} {rest : List Oper} {e : Nat → Value} {w : World} {d : Tmp} {ty : TypeId} {pos : String} {aft : Array Edge}
theorem OW_fieldB {x : Operand} {t : TypeId} {g f o : Nat} (hr : FldO P t f o) (hx : ev e x = .pointer (some ⟨g, 0, none⟩))
    (h : OW P ops Q rest (upd e d (.pointer (some ⟨g, o, none⟩))) w) : OW P ops Q (⟨some d, .fieldAddr t x f, ty, pos, aft, none⟩ :: rest) e w :=
  OW_fieldO hr hx (by rw [addr0]; exact h)
end
theorem und_pH : Try.prog.underlying 112 = some (.pointer 124) := Try.underlying112
theorem fldo_H0 : FldO Try.prog 124 0 0 := ⟨fun w a => by kernel_rfl⟩
theorem fldo_H1 : FldO Try.prog 124 1 1 := ⟨fun w a => by kernel_rfl⟩
theorem fldo_H2 : FldO Try.prog 124 2 9 := ⟨fun w a => by kernel_rfl⟩
theorem fldo_H3 : FldO Try.prog 124 3 10 := ⟨fun w a => by kernel_rfl⟩
/-- A hash's cells. -/
def hcells (s : N8) (A : Option Addr) (n c k : Nat) : List Value := .bool true :: (s.cells ++ [.slice A n c, .int .i64 k])
theorem bld_H : ∀ w, (Instr.build 124 [(0, .bool true), (1, .agg iv8.cells.toArray)].toArray).run Try.prog w = .ok (.agg (hcells iv8 none 0 0 0).toArray) w := fun w => by kernel_rfl
/-- A hash that was made, at block g, of the bytes l; its blocks lie in S. -/
structure HR (w : World) (g : Nat) (S : Nat → Prop) (l : List UInt8) : Prop where
  in_ : S g
  at_ : ∃ A c, Blk w g 124 (hcells (allB iv8 l) A (restB l).length c l.length).toArray ∧ Bs w A (restB l) ∧ (restB l).length ≤ c ∧ ∀ ad, A = some ad → S ad.block ∧ ad.block ≠ g
  bd : ∀ k, S k → k < w.heap.size
theorem HR.keeps {w w' : World} {g : Nat} {S X : Nat → Prop} {l : List UInt8} (h : HR w g S l) (hk : Keeps w w' X) (hn : ∀ k, S k → ¬ X k) : HR w' g S l := by
  obtain ⟨A, c, h1, h2, h3, h4⟩ := h.at_
  exact ⟨h.in_, ⟨A, c, h1.keeps hk (hn g h.in_), h2.keeps hk (fun ad ha => hn _ (h4 ad ha).1), h3, h4⟩, fun k hk2 => Nat.lt_of_lt_of_le (h.bd k hk2) hk.size⟩
theorem HR.ext {w w' : World} {g : Nat} {S : Nat → Prop} {l : List UInt8} (h : HR w g S l) (hk : Ext w w') : HR w' g S l := by
  obtain ⟨A, c, h1, h2, h3, h4⟩ := h.at_
  exact ⟨h.in_, ⟨A, c, h1.ext hk, h2.ext hk, h3, h4⟩, fun k hk2 => Nat.lt_of_lt_of_le (h.bd k hk2) hk.size⟩
theorem HR.mono {w : World} {g : Nat} {S S' : Nat → Prop} {l : List UInt8} (h : HR w g S l) (hs : ∀ k, S k → S' k) (hb : ∀ k, S' k → k < w.heap.size) : HR w g S' l := by
  obtain ⟨A, c, h1, h2, h3, h4⟩ := h.at_
  exact ⟨hs g h.in_, ⟨A, c, h1, h2, h3, fun ad ha => ⟨hs _ (h4 ad ha).1, (h4 ad ha).2⟩⟩, hb⟩
theorem hcells_one (s : N8) (A : Option Addr) (n c k : Nat) : ∀ v ∈ hcells s A n c k, v.oneCell' = true := by
  intro v hv
  simp only [hcells, List.mem_cons, List.mem_append, List.not_mem_nil, or_false] at hv
  rcases hv with rfl | hv | rfl | rfl
  · rfl
  · exact uv_one _ v hv
  · rfl
  · rfl
set_option maxHeartbeats 8000000 in
theorem newHash_any (w : World) : Calls Try.prog 85 #[] w (fun en w' => ∃ g, en = .returned (.pointer (some ⟨g, 0, none⟩)) ∧ w.heap.size ≤ g ∧ Ext w w' ∧ HR w' g (more (fun _ => False) w w') []) := by
  refine calls_of_CW Try.func85 rfl (by simp [Try.ntmps85]) ?_
  rw [Try.ntmps85]
  refine go_Sha3 (k := ?_)
  refine OW_callV Try.func93 (by kernel_rfl) rfl (first_any w) rfl ?_
  intro w1 hx1
  refine go_Sha3 (k := ?_)
  refine OW_build _ _ bld_H rfl ?_
  refine go_Sha3 (k := ?_)
  refine OW_box _ rfl ?_
  intro w2 g hb hg hlt hx
  refine go_Sha3 (k := ?_)
  have s1 := hx1.size
  exact bodyE_ret1 rfl (.pointer (some ⟨g, 0, none⟩)) rfl ⟨g, rfl, by omega, hx1.trans' hx, .inr ⟨by omega, hlt⟩, ⟨none, 0, hb, Bs.nil _ _, Nat.le_refl _, fun ad h => by cases h⟩, fun k hk => by rcases hk with h | h; exact h.elim; exact h.2⟩
set_option maxHeartbeats 8000000 in
theorem none_any (w : World) (g : Nat) (s : N8) (A : Option Addr) (n c k : Nat) (h : Blk w g 124 (hcells s A n c k).toArray) : Calls Try.prog 94 #[.pointer (some ⟨g, 0, none⟩)] w (RetV w (.bool false)) := by
  refine calls_of_CW Try.func94 rfl (by simp [Try.ntmps94]) ?_
  rw [Try.ntmps94]
  refine go_Sha3 (k := ?_)
  refine OW_isLoad ?_
  refine OW_loadBk s_bool rfl h (.bool true) rfl ?_
  refine go_Sha3 (k := ?_)
  exact bodyE_ret1 rfl (.bool false) rfl ⟨rfl, Ext.rfl' _⟩
set_option maxHeartbeats 8000000 in
theorem blocks_any (w : World) (A : Option Addr) (n c : Nat) : Calls Try.prog 95 #[.slice A n c] w (fun en w' => ∃ g, en = .returned (.func (.func 98) #[] #[.pointer (some ⟨g, 0, none⟩)]) ∧ Blk w' g 31 #[.slice A n c] ∧ w.heap.size ≤ g ∧ Ext w w') := by
  refine calls_of_CW Try.func95 rfl (by simp [Try.ntmps95]) ?_
  rw [Try.ntmps95]
  refine go_Sha3 (k := ?_)
  refine OW_box _ rfl ?_
  intro w1 g hb hg hlt hx
  refine go_Sha3 (k := ?_)
  refine OW_mkFunc [.pointer (some ⟨g, 0, none⟩)] rfl ?_
  refine go_Sha3 (k := ?_)
  exact bodyE_ret1 rfl _ rfl ⟨g, rfl, hb, hg, hx⟩
end Go.Proofs.Ytnfeibbnjdegfaa
