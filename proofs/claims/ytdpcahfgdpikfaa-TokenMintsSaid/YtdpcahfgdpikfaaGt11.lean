/- Several texts in one, as they stand in wip/src. -/
import Derived.Test.YtdpcahfgdpikfaaGt2
import Derived.Test.YtdpcahfgdpikfaaGt3
import Derived.Test.YtdpcahfgdpikfaaGt9
import Derived.Test.YtdpcahfgdpikfaaGt10
/- Walk: the reference's Sum. -/
namespace Go.Proofs.Ytdpcahfgdpikfaa
open Go Go.RowKit
set_option linter.unusedVariables false
set_option maxRecDepth 4000
theorem go_Sha7 {A B : Prop} (h : Held B → A := by
  intro hEnd
  repeat (first | refine OW_addW rfl rfl ?_ | refine OW_andW rfl rfl ?_ | refine OW_orW rfl rfl ?_ | refine OW_xorW rfl rfl ?_ | refine OW_notW rfl ?_ | refine OW_idxSI und_u32s one_u32 rfl rfl (by omega) (by omega) ?_ | (refine OW_isLoad ?_; refine OW_loadBk one_u32 rfl (by apply_assumption; assumption) _ (by assumption) ?_) | refine OW_moveV (.int _ _) rfl ?_ | refine OW_moveV (.slice _ _ _) rfl ?_ | refine OW_moveV (.bool _) rfl ?_ | refine OW_moveV (.pointer _) rfl ?_ | refine OW_moveV (.string _) rfl ?_ | refine OW_moveV (.agg _) rfl ?_ | refine OW_moveV (.tuple _) rfl ?_ | refine OW_nil ?_ | refine thenE_normal ?_ | refine CW_seq ?_ | refine CW_region (by kernel_rfl) ?_ | refine OW_assignV (.int _ _) rfl ?_ | refine OW_assignV (.slice _ _ _) rfl ?_ | refine OW_assignV (.bool _) rfl ?_ | refine OW_assignV (.pointer _) rfl ?_ | refine OW_assignV (.string _) rfl ?_ | refine OW_assignV (.agg _) rfl ?_ | refine OW_assignV (.tuple _) rfl ?_ | refine OW_addI rfl rfl (by omega) ?_ | refine OW_subI rfl rfl (by omega) ?_ | refine OW_mulI rfl rfl (by omega) ?_ | refine OW_lss rfl rfl ?_ | refine OW_extract rfl rfl ?_ | refine OW_gtr rfl rfl ?_ | refine OW_leq rfl rfl ?_ | refine OW_geq rfl rfl ?_ | refine OW_eql rfl rfl ?_ | refine OW_neq rfl rfl ?_ | refine OW_not rfl ?_ | refine OW_pickT rfl _ rfl ?_ | refine OW_pickF rfl (.bool _) rfl ?_ | refine OW_pickB rfl rfl rfl ?_ | refine OW_move ?_ | refine OW_assign ?_ | refine OW_pass rfl ?_ | refine OW_take rfl ?_ | refine OW_lenS (by first | with_reducible exact und_bytes | with_reducible exact und_bytess) rfl ?_ | refine OW_convInt (by first | with_reducible exact und_u8 | with_reducible exact und_u64 | with_reducible exact und_int | with_reducible exact und_u32) (by first | with_reducible exact und_u8 | with_reducible exact und_u64 | with_reducible exact und_int | with_reducible exact und_u32) rfl ?_ | refine OW_add rfl rfl ?_ | refine OW_sub rfl rfl ?_ | refine OW_mul rfl rfl ?_ | refine OW_min2 rfl rfl ?_ | refine OW_max2 rfl rfl ?_ | refine OW_neg rfl ?_ | refine CW_block ?_ | refine CW_condT rfl ?_ | refine CW_condF rfl ?_ | refine CW_exit ?_ | refine CW_ret ?_ | refine CW_skip ?_ | refine LW_seq ?_ | refine LW_regC ?_ | refine LW_condC ?_ | refine LW_regF ?_ | refine LW_condF ?_ | refine FW_seq ?_ | refine FW_region (by kernel_rfl) ?_ | refine FW_block ?_ | refine FW_condT rfl ?_ | refine FW_condF rfl ?_ | refine FW_exit ?_ | refine FW_ret ?_ | refine FW_skip ?_ | refine LW_ret ?_ | refine LW_skip ?_ | refine thenE_exit ?_ | refine thenE_ret ?_ | refine inBlockE_normal ?_ | refine inBlockE_same ?_ | refine inBlockE_ret ?_ | refine inBlockE_ne (by rfl) ?_ | refine OW_eqlB (by with_reducible exact und_bool) rfl rfl ?_ | refine OW_neqB (by with_reducible exact und_bool) rfl rfl ?_ | refine OW_idxS (by with_reducible exact und_bytes) one_u8 rfl rfl _ rfl (by omega) ?_ | refine OW_idxS (by with_reducible exact und_bytess) one_bytes rfl rfl _ rfl (by omega) ?_ | refine OW_load1 (by first | with_reducible exact one_u8 | with_reducible exact one_bytes) rfl _ (by assumption) ?_)
  exact hEnd.out) (k : B) : A := h ⟨k⟩
theorem oy_Sha7 {A B : Prop} (h : Held B → A := by
  intro hEnd
  repeat (first
    | refine OY_done ?_
    | (apply OY_p _ rfl
       · intro wd
         (first | refine OW_addW rfl rfl ?_ | refine OW_andW rfl rfl ?_ | refine OW_orW rfl rfl ?_ | refine OW_xorW rfl rfl ?_ | refine OW_notW rfl ?_ | refine OW_idxSI und_u32s one_u32 rfl rfl (by omega) (by omega) ?_ | (refine OW_isLoad ?_; refine OW_loadBk one_u32 rfl (by apply_assumption; assumption) _ (by assumption) ?_) | refine OW_moveV (.int _ _) rfl ?_ | refine OW_moveV (.slice _ _ _) rfl ?_ | refine OW_moveV (.bool _) rfl ?_ | refine OW_moveV (.pointer _) rfl ?_ | refine OW_moveV (.string _) rfl ?_ | refine OW_moveV (.agg _) rfl ?_ | refine OW_moveV (.tuple _) rfl ?_ | refine OW_nil ?_ | refine thenE_normal ?_ | refine CW_seq ?_ | refine CW_region (by kernel_rfl) ?_ | refine OW_assignV (.int _ _) rfl ?_ | refine OW_assignV (.slice _ _ _) rfl ?_ | refine OW_assignV (.bool _) rfl ?_ | refine OW_assignV (.pointer _) rfl ?_ | refine OW_assignV (.string _) rfl ?_ | refine OW_assignV (.agg _) rfl ?_ | refine OW_assignV (.tuple _) rfl ?_ | refine OW_addI rfl rfl (by omega) ?_ | refine OW_subI rfl rfl (by omega) ?_ | refine OW_mulI rfl rfl (by omega) ?_ | refine OW_lss rfl rfl ?_ | refine OW_extract rfl rfl ?_ | refine OW_gtr rfl rfl ?_ | refine OW_leq rfl rfl ?_ | refine OW_geq rfl rfl ?_ | refine OW_eql rfl rfl ?_ | refine OW_neq rfl rfl ?_ | refine OW_not rfl ?_ | refine OW_pickT rfl _ rfl ?_ | refine OW_pickF rfl (.bool _) rfl ?_ | refine OW_pickB rfl rfl rfl ?_ | refine OW_move ?_ | refine OW_assign ?_ | refine OW_pass rfl ?_ | refine OW_take rfl ?_ | refine OW_lenS (by first | with_reducible exact und_bytes | with_reducible exact und_bytess) rfl ?_ | refine OW_convInt (by first | with_reducible exact und_u8 | with_reducible exact und_u64 | with_reducible exact und_int | with_reducible exact und_u32) (by first | with_reducible exact und_u8 | with_reducible exact und_u64 | with_reducible exact und_int | with_reducible exact und_u32) rfl ?_ | refine OW_add rfl rfl ?_ | refine OW_sub rfl rfl ?_ | refine OW_mul rfl rfl ?_ | refine OW_min2 rfl rfl ?_ | refine OW_max2 rfl rfl ?_ | refine OW_neg rfl ?_ | refine CW_block ?_ | refine CW_condT rfl ?_ | refine CW_condF rfl ?_ | refine CW_exit ?_ | refine CW_ret ?_ | refine CW_skip ?_ | refine LW_seq ?_ | refine LW_regC ?_ | refine LW_condC ?_ | refine LW_regF ?_ | refine LW_condF ?_ | refine FW_seq ?_ | refine FW_region (by kernel_rfl) ?_ | refine FW_block ?_ | refine FW_condT rfl ?_ | refine FW_condF rfl ?_ | refine FW_exit ?_ | refine FW_ret ?_ | refine FW_skip ?_ | refine LW_ret ?_ | refine LW_skip ?_ | refine thenE_exit ?_ | refine thenE_ret ?_ | refine inBlockE_normal ?_ | refine inBlockE_same ?_ | refine inBlockE_ret ?_ | refine inBlockE_ne (by rfl) ?_ | refine OW_eqlB (by with_reducible exact und_bool) rfl rfl ?_ | refine OW_neqB (by with_reducible exact und_bool) rfl rfl ?_ | refine OW_idxS (by with_reducible exact und_bytes) one_u8 rfl rfl _ rfl (by omega) ?_ | refine OW_idxS (by with_reducible exact und_bytess) one_bytes rfl rfl _ rfl (by omega) ?_ | refine OW_load1 (by first | with_reducible exact one_u8 | with_reducible exact one_bytes) rfl _ (by assumption) ?_)
         refine OW_nil ?_
         exact stay_mk _ _ _ _)
    | (apply OY_q _ rfl
       · intro wd hwd
         (first | refine OW_addW rfl rfl ?_ | refine OW_andW rfl rfl ?_ | refine OW_orW rfl rfl ?_ | refine OW_xorW rfl rfl ?_ | refine OW_notW rfl ?_ | refine OW_idxSI und_u32s one_u32 rfl rfl (by omega) (by omega) ?_ | (refine OW_isLoad ?_; refine OW_loadBk one_u32 rfl (by apply_assumption; assumption) _ (by assumption) ?_) | refine OW_moveV (.int _ _) rfl ?_ | refine OW_moveV (.slice _ _ _) rfl ?_ | refine OW_moveV (.bool _) rfl ?_ | refine OW_moveV (.pointer _) rfl ?_ | refine OW_moveV (.string _) rfl ?_ | refine OW_moveV (.agg _) rfl ?_ | refine OW_moveV (.tuple _) rfl ?_ | refine OW_nil ?_ | refine thenE_normal ?_ | refine CW_seq ?_ | refine CW_region (by kernel_rfl) ?_ | refine OW_assignV (.int _ _) rfl ?_ | refine OW_assignV (.slice _ _ _) rfl ?_ | refine OW_assignV (.bool _) rfl ?_ | refine OW_assignV (.pointer _) rfl ?_ | refine OW_assignV (.string _) rfl ?_ | refine OW_assignV (.agg _) rfl ?_ | refine OW_assignV (.tuple _) rfl ?_ | refine OW_addI rfl rfl (by omega) ?_ | refine OW_subI rfl rfl (by omega) ?_ | refine OW_mulI rfl rfl (by omega) ?_ | refine OW_lss rfl rfl ?_ | refine OW_extract rfl rfl ?_ | refine OW_gtr rfl rfl ?_ | refine OW_leq rfl rfl ?_ | refine OW_geq rfl rfl ?_ | refine OW_eql rfl rfl ?_ | refine OW_neq rfl rfl ?_ | refine OW_not rfl ?_ | refine OW_pickT rfl _ rfl ?_ | refine OW_pickF rfl (.bool _) rfl ?_ | refine OW_pickB rfl rfl rfl ?_ | refine OW_move ?_ | refine OW_assign ?_ | refine OW_pass rfl ?_ | refine OW_take rfl ?_ | refine OW_lenS (by first | with_reducible exact und_bytes | with_reducible exact und_bytess) rfl ?_ | refine OW_convInt (by first | with_reducible exact und_u8 | with_reducible exact und_u64 | with_reducible exact und_int | with_reducible exact und_u32) (by first | with_reducible exact und_u8 | with_reducible exact und_u64 | with_reducible exact und_int | with_reducible exact und_u32) rfl ?_ | refine OW_add rfl rfl ?_ | refine OW_sub rfl rfl ?_ | refine OW_mul rfl rfl ?_ | refine OW_min2 rfl rfl ?_ | refine OW_max2 rfl rfl ?_ | refine OW_neg rfl ?_ | refine CW_block ?_ | refine CW_condT rfl ?_ | refine CW_condF rfl ?_ | refine CW_exit ?_ | refine CW_ret ?_ | refine CW_skip ?_ | refine LW_seq ?_ | refine LW_regC ?_ | refine LW_condC ?_ | refine LW_regF ?_ | refine LW_condF ?_ | refine FW_seq ?_ | refine FW_region (by kernel_rfl) ?_ | refine FW_block ?_ | refine FW_condT rfl ?_ | refine FW_condF rfl ?_ | refine FW_exit ?_ | refine FW_ret ?_ | refine FW_skip ?_ | refine LW_ret ?_ | refine LW_skip ?_ | refine thenE_exit ?_ | refine thenE_ret ?_ | refine inBlockE_normal ?_ | refine inBlockE_same ?_ | refine inBlockE_ret ?_ | refine inBlockE_ne (by rfl) ?_ | refine OW_eqlB (by with_reducible exact und_bool) rfl rfl ?_ | refine OW_neqB (by with_reducible exact und_bool) rfl rfl ?_ | refine OW_idxS (by with_reducible exact und_bytes) one_u8 rfl rfl _ rfl (by omega) ?_ | refine OW_idxS (by with_reducible exact und_bytess) one_bytes rfl rfl _ rfl (by omega) ?_ | refine OW_load1 (by first | with_reducible exact one_u8 | with_reducible exact one_bytes) rfl _ (by assumption) ?_ | (refine OW_isLoad ?_; refine OW_loadBk (by first | with_reducible exact one_u8 | with_reducible exact one_bytes | with_reducible exact one_bool | with_reducible exact one_int | with_reducible exact one_errno | with_reducible exact one_u32 | with_reducible exact one_u64 | with_reducible exact one_string) rfl (by apply_assumption; assumption) _ (by first | assumption | rfl) ?_) | refine OW_load1 (by first | with_reducible exact one_u8 | with_reducible exact one_bytes | with_reducible exact one_bool | with_reducible exact one_int | with_reducible exact one_errno | with_reducible exact one_u32 | with_reducible exact one_u64 | with_reducible exact one_string) rfl _ (by apply_assumption; assumption) ?_)
         refine OW_nil ?_
         exact stay_mk _ _ _ _)
    | refine OY_ppass rfl rfl ?_
    | refine OY_qpass rfl rfl ?_
    | (apply OY_ptake _ rfl rfl
       · intro wd
         (first | refine OW_addW rfl rfl ?_ | refine OW_andW rfl rfl ?_ | refine OW_orW rfl rfl ?_ | refine OW_xorW rfl rfl ?_ | refine OW_notW rfl ?_ | refine OW_idxSI und_u32s one_u32 rfl rfl (by omega) (by omega) ?_ | (refine OW_isLoad ?_; refine OW_loadBk one_u32 rfl (by apply_assumption; assumption) _ (by assumption) ?_) | refine OW_moveV (.int _ _) rfl ?_ | refine OW_moveV (.slice _ _ _) rfl ?_ | refine OW_moveV (.bool _) rfl ?_ | refine OW_moveV (.pointer _) rfl ?_ | refine OW_moveV (.string _) rfl ?_ | refine OW_moveV (.agg _) rfl ?_ | refine OW_moveV (.tuple _) rfl ?_ | refine OW_nil ?_ | refine thenE_normal ?_ | refine CW_seq ?_ | refine CW_region (by kernel_rfl) ?_ | refine OW_assignV (.int _ _) rfl ?_ | refine OW_assignV (.slice _ _ _) rfl ?_ | refine OW_assignV (.bool _) rfl ?_ | refine OW_assignV (.pointer _) rfl ?_ | refine OW_assignV (.string _) rfl ?_ | refine OW_assignV (.agg _) rfl ?_ | refine OW_assignV (.tuple _) rfl ?_ | refine OW_addI rfl rfl (by omega) ?_ | refine OW_subI rfl rfl (by omega) ?_ | refine OW_mulI rfl rfl (by omega) ?_ | refine OW_lss rfl rfl ?_ | refine OW_extract rfl rfl ?_ | refine OW_gtr rfl rfl ?_ | refine OW_leq rfl rfl ?_ | refine OW_geq rfl rfl ?_ | refine OW_eql rfl rfl ?_ | refine OW_neq rfl rfl ?_ | refine OW_not rfl ?_ | refine OW_pickT rfl _ rfl ?_ | refine OW_pickF rfl (.bool _) rfl ?_ | refine OW_pickB rfl rfl rfl ?_ | refine OW_move ?_ | refine OW_assign ?_ | refine OW_pass rfl ?_ | refine OW_take rfl ?_ | refine OW_lenS (by first | with_reducible exact und_bytes | with_reducible exact und_bytess) rfl ?_ | refine OW_convInt (by first | with_reducible exact und_u8 | with_reducible exact und_u64 | with_reducible exact und_int | with_reducible exact und_u32) (by first | with_reducible exact und_u8 | with_reducible exact und_u64 | with_reducible exact und_int | with_reducible exact und_u32) rfl ?_ | refine OW_add rfl rfl ?_ | refine OW_sub rfl rfl ?_ | refine OW_mul rfl rfl ?_ | refine OW_min2 rfl rfl ?_ | refine OW_max2 rfl rfl ?_ | refine OW_neg rfl ?_ | refine CW_block ?_ | refine CW_condT rfl ?_ | refine CW_condF rfl ?_ | refine CW_exit ?_ | refine CW_ret ?_ | refine CW_skip ?_ | refine LW_seq ?_ | refine LW_regC ?_ | refine LW_condC ?_ | refine LW_regF ?_ | refine LW_condF ?_ | refine FW_seq ?_ | refine FW_region (by kernel_rfl) ?_ | refine FW_block ?_ | refine FW_condT rfl ?_ | refine FW_condF rfl ?_ | refine FW_exit ?_ | refine FW_ret ?_ | refine FW_skip ?_ | refine LW_ret ?_ | refine LW_skip ?_ | refine thenE_exit ?_ | refine thenE_ret ?_ | refine inBlockE_normal ?_ | refine inBlockE_same ?_ | refine inBlockE_ret ?_ | refine inBlockE_ne (by rfl) ?_ | refine OW_eqlB (by with_reducible exact und_bool) rfl rfl ?_ | refine OW_neqB (by with_reducible exact und_bool) rfl rfl ?_ | refine OW_idxS (by with_reducible exact und_bytes) one_u8 rfl rfl _ rfl (by omega) ?_ | refine OW_idxS (by with_reducible exact und_bytess) one_bytes rfl rfl _ rfl (by omega) ?_ | refine OW_load1 (by first | with_reducible exact one_u8 | with_reducible exact one_bytes) rfl _ (by assumption) ?_)
         refine OW_nil ?_
         exact stay_mk _ _ _ _)
    | (apply OY_qtake _ rfl rfl
       · intro wd hwd
         (first | refine OW_addW rfl rfl ?_ | refine OW_andW rfl rfl ?_ | refine OW_orW rfl rfl ?_ | refine OW_xorW rfl rfl ?_ | refine OW_notW rfl ?_ | refine OW_idxSI und_u32s one_u32 rfl rfl (by omega) (by omega) ?_ | (refine OW_isLoad ?_; refine OW_loadBk one_u32 rfl (by apply_assumption; assumption) _ (by assumption) ?_) | refine OW_moveV (.int _ _) rfl ?_ | refine OW_moveV (.slice _ _ _) rfl ?_ | refine OW_moveV (.bool _) rfl ?_ | refine OW_moveV (.pointer _) rfl ?_ | refine OW_moveV (.string _) rfl ?_ | refine OW_moveV (.agg _) rfl ?_ | refine OW_moveV (.tuple _) rfl ?_ | refine OW_nil ?_ | refine thenE_normal ?_ | refine CW_seq ?_ | refine CW_region (by kernel_rfl) ?_ | refine OW_assignV (.int _ _) rfl ?_ | refine OW_assignV (.slice _ _ _) rfl ?_ | refine OW_assignV (.bool _) rfl ?_ | refine OW_assignV (.pointer _) rfl ?_ | refine OW_assignV (.string _) rfl ?_ | refine OW_assignV (.agg _) rfl ?_ | refine OW_assignV (.tuple _) rfl ?_ | refine OW_addI rfl rfl (by omega) ?_ | refine OW_subI rfl rfl (by omega) ?_ | refine OW_mulI rfl rfl (by omega) ?_ | refine OW_lss rfl rfl ?_ | refine OW_extract rfl rfl ?_ | refine OW_gtr rfl rfl ?_ | refine OW_leq rfl rfl ?_ | refine OW_geq rfl rfl ?_ | refine OW_eql rfl rfl ?_ | refine OW_neq rfl rfl ?_ | refine OW_not rfl ?_ | refine OW_pickT rfl _ rfl ?_ | refine OW_pickF rfl (.bool _) rfl ?_ | refine OW_pickB rfl rfl rfl ?_ | refine OW_move ?_ | refine OW_assign ?_ | refine OW_pass rfl ?_ | refine OW_take rfl ?_ | refine OW_lenS (by first | with_reducible exact und_bytes | with_reducible exact und_bytess) rfl ?_ | refine OW_convInt (by first | with_reducible exact und_u8 | with_reducible exact und_u64 | with_reducible exact und_int | with_reducible exact und_u32) (by first | with_reducible exact und_u8 | with_reducible exact und_u64 | with_reducible exact und_int | with_reducible exact und_u32) rfl ?_ | refine OW_add rfl rfl ?_ | refine OW_sub rfl rfl ?_ | refine OW_mul rfl rfl ?_ | refine OW_min2 rfl rfl ?_ | refine OW_max2 rfl rfl ?_ | refine OW_neg rfl ?_ | refine CW_block ?_ | refine CW_condT rfl ?_ | refine CW_condF rfl ?_ | refine CW_exit ?_ | refine CW_ret ?_ | refine CW_skip ?_ | refine LW_seq ?_ | refine LW_regC ?_ | refine LW_condC ?_ | refine LW_regF ?_ | refine LW_condF ?_ | refine FW_seq ?_ | refine FW_region (by kernel_rfl) ?_ | refine FW_block ?_ | refine FW_condT rfl ?_ | refine FW_condF rfl ?_ | refine FW_exit ?_ | refine FW_ret ?_ | refine FW_skip ?_ | refine LW_ret ?_ | refine LW_skip ?_ | refine thenE_exit ?_ | refine thenE_ret ?_ | refine inBlockE_normal ?_ | refine inBlockE_same ?_ | refine inBlockE_ret ?_ | refine inBlockE_ne (by rfl) ?_ | refine OW_eqlB (by with_reducible exact und_bool) rfl rfl ?_ | refine OW_neqB (by with_reducible exact und_bool) rfl rfl ?_ | refine OW_idxS (by with_reducible exact und_bytes) one_u8 rfl rfl _ rfl (by omega) ?_ | refine OW_idxS (by with_reducible exact und_bytess) one_bytes rfl rfl _ rfl (by omega) ?_ | refine OW_load1 (by first | with_reducible exact one_u8 | with_reducible exact one_bytes) rfl _ (by assumption) ?_ | (refine OW_isLoad ?_; refine OW_loadBk (by first | with_reducible exact one_u8 | with_reducible exact one_bytes | with_reducible exact one_bool | with_reducible exact one_int | with_reducible exact one_errno | with_reducible exact one_u32 | with_reducible exact one_u64 | with_reducible exact one_string) rfl (by apply_assumption; assumption) _ (by first | assumption | rfl) ?_) | refine OW_load1 (by first | with_reducible exact one_u8 | with_reducible exact one_bytes | with_reducible exact one_bool | with_reducible exact one_int | with_reducible exact one_errno | with_reducible exact one_u32 | with_reducible exact one_u64 | with_reducible exact one_string) rfl _ (by apply_assumption; assumption) ?_)
         refine OW_nil ?_
         exact stay_mk _ _ _ _)
    | refine OY_a (actY_of rfl ?_)
    | refine OY_d (actY_of rfl ?_)
    | refine OY_a (actY_pass rfl rfl ?_)
    | refine OY_d (actY_pass rfl rfl ?_)
    | refine OY_a (actY_take rfl rfl ?_)
    | refine OY_d (actY_take rfl rfl ?_))
  exact hEnd.out) (k : B) : A := h ⟨k⟩
theorem outB_get (z : N8) : ∀ i, i < 8 → ∀ m, m < 4 → (outB z)[4 * i + m]? = (putL (z.l.getD i 0).toNat 4)[m]?
  | 0, _, 0, _ => rfl
  | 0, _, 1, _ => rfl
  | 0, _, 2, _ => rfl
  | 0, _, 3, _ => rfl
  | 1, _, 0, _ => rfl
  | 1, _, 1, _ => rfl
  | 1, _, 2, _ => rfl
  | 1, _, 3, _ => rfl
  | 2, _, 0, _ => rfl
  | 2, _, 1, _ => rfl
  | 2, _, 2, _ => rfl
  | 2, _, 3, _ => rfl
  | 3, _, 0, _ => rfl
  | 3, _, 1, _ => rfl
  | 3, _, 2, _ => rfl
  | 3, _, 3, _ => rfl
  | 4, _, 0, _ => rfl
  | 4, _, 1, _ => rfl
  | 4, _, 2, _ => rfl
  | 4, _, 3, _ => rfl
  | 5, _, 0, _ => rfl
  | 5, _, 1, _ => rfl
  | 5, _, 2, _ => rfl
  | 5, _, 3, _ => rfl
  | 6, _, 0, _ => rfl
  | 6, _, 1, _ => rfl
  | 6, _, 2, _ => rfl
  | 6, _, 3, _ => rfl
  | 7, _, 0, _ => rfl
  | 7, _, 1, _ => rfl
  | 7, _, 2, _ => rfl
  | 7, _, 3, _ => rfl
  | n + 8, h, _, _ => absurd h (by omega)
  | 0, _, m + 4, h => absurd h (by omega)
  | 1, _, m + 4, h => absurd h (by omega)
  | 2, _, m + 4, h => absurd h (by omega)
  | 3, _, m + 4, h => absurd h (by omega)
  | 4, _, m + 4, h => absurd h (by omega)
  | 5, _, m + 4, h => absurd h (by omega)
  | 6, _, m + 4, h => absurd h (by omega)
  | 7, _, m + 4, h => absurd h (by omega)
/-- The tag as far as it goes, byte by byte. -/
def outJ (z : N8) (j : Nat) : List UInt8 := (outB z).take j ++ List.replicate (32 - j) 0
theorem outJ_length (z : N8) {j : Nat} (hj : j ≤ 32) : (outJ z j).length = 32 := by
  have := outB_length z
  simp [outJ]
  omega
theorem outJ_0 (z : N8) : outJ z 0 = tzS := by simp [outJ, tzS]
theorem outJ_32 (z : N8) : outJ z 32 = outB z := by
  have := outB_length z
  unfold outJ
  rw [List.take_of_length_le (by omega)]
  simp
theorem outJ_set (z : N8) {j : Nat} {x : UInt8} (hj : j < 32) (hx : (outB z)[j]? = some x) : ((outJ z j).map bv).toArray.setIfInBounds j (bv x) = ((outJ z (j + 1)).map bv).toArray := by
  have hl := outB_length z
  rw [List.setIfInBounds_toArray]
  congr 1
  have hr : List.replicate (32 - j) (0 : UInt8) = 0 :: List.replicate (32 - (j + 1)) 0 := by rw [← List.replicate_succ]; congr 1; omega
  have ht : (outB z).take (j + 1) = (outB z).take j ++ [x] := by
    rw [take_succ_get _ _ (by omega)]
    congr 2
    rw [List.getElem?_eq_getElem (by omega)] at hx
    exact Option.some.inj hx
  unfold outJ
  rw [ht, hr, List.map_append, List.map_cons]
  rw [List.set_append_right _ _ (by simp; omega)]
  simp [hl, Nat.min_eq_left (show j ≤ 32 by omega)]
set_option maxHeartbeats 8000000 in
theorem refSum_any (w : World) (A : Option Addr) (c : Nat) (b : List UInt8) (hb : Bs w A b) (hl : b.length ≤ 100000) :
    Calls Try.prog 24 #[.slice A b.length c] w (RetV w (.agg ((shaL b).map bv).toArray)) := by
  refine calls_of_CW Try.func24 rfl (by simp [Try.ntmps24]) ?_
  rw [Try.ntmps24]
  refine go_Sha7 (k := ?_)
  refine OW_allocA s_agg_Tag ?_
  intro w1 g2 hb2 hg2 hl2 hx1
  refine go_Sha7 (k := ?_)
  refine OW_lit iv8.cells und_u32s info_u32 (by kernel_rfl) rfl (uv_one _) (by decide) ?_
  intro w2 gn hbn hgn hx2
  refine go_Sha7 (k := ?_)
  refine OW_callC Try.func69 (by kernel_rfl) rfl (refConstants_any w2) rfl ?_
  rintro en w3 ⟨gk, rfl, hbk, hgk, hx3⟩
  refine ⟨_, rfl, ?_⟩
  refine go_Sha7 (k := ?_)
  have hx13 := hx2.trans' hx3
  refine OW_callBs Try.func70 (by kernel_rfl) rfl (refWhole_any w3 A c b (hb.ext (hx1.trans' hx13)) hl) rfl ?_
  intro w4 A5 c5 hf4
  have hL : (b ++ tailB b.length).length % 64 = 0 := by rw [List.length_append]; exact tail_length _
  have hLl : (b ++ tailB b.length).length ≤ 200000 := by rw [List.length_append]; simp [tailB, putL_length]; omega
  have hsh : runB iv8 (b ++ tailB b.length) ((b ++ tailB b.length).length / 64) = shaN b := rfl
  obtain ⟨L, hLe⟩ : ∃ L, b ++ tailB b.length = L := ⟨_, rfl⟩
  rw [hLe] at hf4 hL hLl hsh ⊢
  have hcap := (own_cap hf4.own).1
  have hbsL := hf4.bs
  have hx24 := hx3.trans' hf4.ext
  have hx14 := hx13.trans' hf4.ext
  have hx04 := hx1.trans' hx14
  have h2b := hb2.ext hx14
  have hnb := hbn.ext hx24
  have hkb := hbk.ext hf4.ext
  have s1 := hx1.size
  have s2 := hx2.size
  have s3 := hx3.size
  have s4 := hf4.ext.size
  have l2 := hbn.lt
  have n2n : g2 ≠ gn := by omega
  have n2k : g2 ≠ gk := by omega
  have nnk : gn ≠ gk := by omega
  have nn : w.heap.size ≤ gn := by omega
  have hAn : ∀ ad, A5 = some ad → ¬ ad.block = gn := fun ad ha => by have := own_block hf4.own ad ha; omega
  clear hx2 hx3 hx13 hx24 hx14 hx1 hLe hb2 hbn hbk
  refine go_Sha7 (k := ?_)
  refine CW_meetB (fun e' w' => e' 2 = .pointer (some ⟨g2, 0, none⟩) ∧ e' 3 = .slice (some ⟨gn, 0, none⟩) 8 8 ∧ Blk w' g2 29 (tzS.map bv).toArray ∧ Blk w' gn 92 (shaN b).cells.toArray ∧ Ext w w') ?_ ?_
  · refine CW_loop (fun e' w' => ∃ i : Nat, i ≤ L.length / 64 ∧ e' 2 = .pointer (some ⟨g2, 0, none⟩) ∧ e' 3 = .slice (some ⟨gn, 0, none⟩) 8 8 ∧ e' 4 = .slice (some ⟨gk, 0, none⟩) 64 64 ∧ e' 5 = .slice A5 L.length c5 ∧ e' 6 = .int .i64 ((64 * i : Nat) : Int) ∧ Blk w' g2 29 (tzS.map bv).toArray ∧ Blk w' gn 92 (runB iv8 L i).cells.toArray ∧ Blk w' gk 92 (kL.map uv).toArray ∧ Bs w' A5 L ∧ Ext w w') (fun e' _ => L.length - (intOf (e' 6)).toNat) ?_ ?_
    · exact ⟨0, Nat.zero_le _, rfl, rfl, rfl, rfl, rfl, h2b, hnb, hkb, hbsL, hx04⟩
    clear h2b hnb hkb hbsL hx04
    rintro e' w' ⟨i, hi, q2, q3, q4, q5, q6, r2, rn, rk, hbs, hx⟩
    rw [upd_self q2, upd_self q3, upd_self q4, upd_self q5, upd_self q6]
    clear q2 q3 q4 q5 q6
    refine go_Sha7 (k := ?_)
    refine CW_cond _ rfl (fun hh => ?_) (fun hh => ?_)
    · have hlt : i < L.length / 64 := by simp at hh; omega
      clear hh
      refine go_Sha7 (k := ?_)
      refine OW_sliceBs und_bytes one_u8 hbs rfl hcap rfl ⟨_, rfl⟩ ⟨_, rfl⟩ (64 * i) (64 * i + 64) rfl (by omega) (by omega) ?_
      intro A6 hb6 hl6
      have hcl : (chunk L i).length = 64 := chunk_length hlt
      rw [show 64 * i + 64 - 64 * i = 64 by omega, show (L.drop (64 * i)).take 64 = chunk L i from rfl] at hb6
      rw [show 64 * i + 64 - 64 * i = (chunk L i).length by omega]
      have hnext : runB iv8 L (i + 1) = (runB iv8 L i).add (rnds (chunk L i) (runB iv8 L i) 64) := rfl
      obtain ⟨ch, hch⟩ : ∃ ch, chunk L i = ch := ⟨_, rfl⟩
      obtain ⟨s, hs⟩ : ∃ s, runB iv8 L i = s := ⟨_, rfl⟩
      rw [hch] at hb6 hcl hnext ⊢
      rw [hs] at rn hnext
      clear hs hch
      refine go_Sha7 (k := ?_)
      refine OW_callC Try.func71 (by kernel_rfl) rfl (refSchedule_any w' A6 _ ch hb6 hcl) rfl ?_
      rintro en w5 ⟨g7, c7, cw, rfl, r7, hcw, hg7, hx5⟩
      refine ⟨_, rfl, ?_⟩
      have n7n : g7 ≠ gn := by have := rn.lt; omega
      replace r2 := r2.ext hx5
      replace rn := rn.ext hx5
      replace rk := rk.ext hx5
      replace hbs := hbs.ext hx5
      have sx := hx.size
      have hx' := hx.trans' hx5
      refine go_Sha7 (k := ?_)
      obtain ⟨cx, hcx⟩ : ∃ cx, s.cells.toArray = cx := ⟨_, rfl⟩
      have x0 : cx[(0 : Int).toNat]? = some (uv s.a) := by rw [← hcx]; rfl
      have x1 : cx[(1 : Int).toNat]? = some (uv s.b) := by rw [← hcx]; rfl
      have x2 : cx[(2 : Int).toNat]? = some (uv s.c) := by rw [← hcx]; rfl
      have x3 : cx[(3 : Int).toNat]? = some (uv s.d) := by rw [← hcx]; rfl
      have x4 : cx[(4 : Int).toNat]? = some (uv s.e) := by rw [← hcx]; rfl
      have x5 : cx[(5 : Int).toNat]? = some (uv s.f) := by rw [← hcx]; rfl
      have x6 : cx[(6 : Int).toNat]? = some (uv s.g) := by rw [← hcx]; rfl
      have x7 : cx[(7 : Int).toNat]? = some (uv s.h) := by rw [← hcx]; rfl
      rw [hcx] at rn
      have hid : Held (s.cells.toArray = cx ∧ runB iv8 L (i + 1) = s.add (rnds ch s 64) ∧ cw.toList.take 64 = (sch ch 64).map uv) := ⟨hcx, hnext, hcw⟩
      clear hcx hnext hcw hl6 hb6
      obtain ⟨C, hC⟩ : ∃ C : World → Prop, C = fun v => Ext w5 v := ⟨_, rfl⟩
      have yn : ∀ v, C v → Blk v gn 92 cx := fun v hv => by rw [hC] at hv; exact rn.ext hv
      refine CW_tree2 [2, 5, 8, 11, 14, 17, 20, 23] (.p 0 (.p 1 (.q 2 (.p 3 (.p 4 (.q 5 (.p 6 (.p 7 (.q 8 (.p 9 (.p 10 (.q 11 (.p 12 (.p 13 (.q 14 (.p 15 (.p 16 (.q 17 (.p 18 (.p 19 (.q 20 (.p 21 (.p 22 (.q 23 (.p 24 (.p 25 (.p 26 (.p 27 (.p 28 (.p 29 (.p 30 (.p 31 .done)))))))))))))))))))))))))))))))) (C) (by kernel_rfl) (by kernel_rfl) (by kernel_rfl) ?_ ?_
      · exact fun v hv => by rw [hC]; exact hv
      intro w6 hx6 hC6
      clear hC6
      have hid2 : Held (∀ v, C v → Blk v gn 92 cx) := ⟨yn⟩
      refine oy_Sha7 (k := ?_)
      refine go_Sha7 (k := ?_)
      clear yn x0 x1 x2 x3 x4 x5 x6 x7 hid2 hC C
      replace r2 := r2.ext hx6
      replace rn := rn.ext hx6
      replace rk := rk.ext hx6
      replace r7 := r7.ext hx6
      replace hbs := hbs.ext hx6
      replace hx' := hx'.trans' hx6
      obtain ⟨hcx, hnext, hcw⟩ := hid.out
      rw [← hcx] at rn
      clear hid hcx
      refine CW_meetB (fun e' w'' => e' 2 = .pointer (some ⟨g2, 0, none⟩) ∧ e' 3 = .slice (some ⟨gn, 0, none⟩) 8 8 ∧ e' 4 = .slice (some ⟨gk, 0, none⟩) 64 64 ∧ e' 5 = .slice A5 L.length c5 ∧ e' 6 = .int .i64 ((64 * i : Nat) : Int) ∧ (∃ X, rnds ch s 64 = X ∧ e' 8 = uv X.a ∧ e' 9 = uv X.b ∧ e' 10 = uv X.c ∧ e' 11 = uv X.d ∧ e' 12 = uv X.e ∧ e' 13 = uv X.f ∧ e' 14 = uv X.g ∧ e' 15 = uv X.h) ∧ Ext w6 w'') ?_ ?_
      · refine CW_loop (fun e' w'' => ∃ k : Nat, k ≤ 64 ∧ e' 2 = .pointer (some ⟨g2, 0, none⟩) ∧ e' 3 = .slice (some ⟨gn, 0, none⟩) 8 8 ∧ e' 4 = .slice (some ⟨gk, 0, none⟩) 64 64 ∧ e' 5 = .slice A5 L.length c5 ∧ e' 6 = .int .i64 ((64 * i : Nat) : Int) ∧ e' 7 = .slice (some ⟨g7, 0, none⟩) 64 c7 ∧ e' 16 = .int .i64 k ∧ (∃ X, rnds ch s k = X ∧ e' 8 = uv X.a ∧ e' 9 = uv X.b ∧ e' 10 = uv X.c ∧ e' 11 = uv X.d ∧ e' 12 = uv X.e ∧ e' 13 = uv X.f ∧ e' 14 = uv X.g ∧ e' 15 = uv X.h) ∧ Ext w6 w'') (fun e' _ => 64 - (intOf (e' 16)).toNat) ?_ ?_
        · exact ⟨0, by omega, rfl, rfl, rfl, rfl, rfl, rfl, rfl, ⟨s, rfl, rfl, rfl, rfl, rfl, rfl, rfl, rfl, rfl⟩, Ext.rfl' _⟩
        rintro e' w'' ⟨k, hk, q2, q3, q4, q5, q6, q7, q16, ⟨X, hX, q8, q9, q10, q11, q12, q13, q14, q15⟩, hxl⟩
        rw [upd_self q2, upd_self q3, upd_self q4, upd_self q5, upd_self q6, upd_self q7, upd_self q8, upd_self q9, upd_self q10, upd_self q11, upd_self q12, upd_self q13, upd_self q14, upd_self q15, upd_self q16]
        clear q2 q3 q4 q5 q6 q7 q8 q9 q10 q11 q12 q13 q14 q15 q16
        refine go_Sha7 (k := ?_)
        refine CW_cond _ rfl (fun hh => ?_) (fun hh => ?_)
        · have hlt : k < 64 := by simp at hh; omega
          clear hh
          refine go_Sha7 (k := ?_)
          rw [ch_eq, maj_eq]
          have hstep : rnds ch s (k + 1) = rnd X (kL.getD k 0) ((sch ch 64).getD k 0) := by rw [← hX]; rfl
          have dK : (kL.map uv).toArray[((k : Nat) : Int).toNat]? = some (uv (kL.getD k 0)) := by rw [show ((k : Nat) : Int).toNat = k by omega]; exact kL_get hlt
          have dW : cw[((k : Nat) : Int).toNat]? = some (uv ((sch ch 64).getD k 0)) := by
            have hl := sch_length ch 64
            have h1 : cw.toList[k]? = some (uv ((sch ch 64).getD k 0)) := by
              rw [← List.getElem?_take_of_lt hlt, hcw, List.getElem?_map, List.getD_eq_getElem?_getD, List.getElem?_eq_getElem (by omega)]
              rfl
            rw [show ((k : Nat) : Int).toNat = k by omega]
            simpa using h1
          obtain ⟨W, hW⟩ : ∃ W, (sch ch 64).getD k 0 = W := ⟨_, rfl⟩
          obtain ⟨K, hK⟩ : ∃ K, kL.getD k 0 = K := ⟨_, rfl⟩
          obtain ⟨ck, hck⟩ : ∃ ck, (kL.map uv).toArray = ck := ⟨_, rfl⟩
          rw [hW] at hstep dW
          rw [hK] at hstep dK
          have rkk := rk
          rw [hck] at dK rkk
          have hid : Held (rnds ch s (k + 1) = rnd X K W) := ⟨hstep⟩
          clear hstep hW hK hck hX
          obtain ⟨C, hC⟩ : ∃ C : World → Prop, C = fun v => Ext w'' v := ⟨_, rfl⟩
          have yk : ∀ v, C v → Blk v gk 92 ck := fun v hv => by rw [hC] at hv; exact rkk.ext (hxl.trans' hv)
          have y7 : ∀ v, C v → Blk v g7 92 cw := fun v hv => by rw [hC] at hv; exact r7.ext (hxl.trans' hv)
          have hHeld : Held (Blk w6 gn 92 s.cells.toArray ∧ Blk w6 gk 92 (kL.map uv).toArray ∧ cw.toList.take 64 = (sch ch 64).map uv ∧ runB iv8 L (i + 1) = s.add (rnds ch s 64)) := ⟨rn, rk, hcw, hnext⟩
          clear rn rk hcw hnext rkk
          refine CW_tree2 [9, 14] (.p 0 (.p 1 (.p 4 (.p 6 (.p 7 (.p 8 (.q 9 (.p 11 (.p 12 (.p 13 (.q 14 (.a 2 (.p 3 (.p 5 (.p 10 (.p 15 (.p 16 .done))))))))))))))))) (C) (by kernel_rfl) (by kernel_rfl) (by kernel_rfl) ?_ ?_
          · exact fun v hv => by rw [hC]; exact hv
          intro w7 hx7 hC7
          refine oy_Sha7 (k := ?_)
          refine OW_callV Try.func72 (by kernel_rfl) rfl (turns_any w7 _ 6 11 25 (by decide) (by decide) (by decide)) rfl ?_
          intro w8 hx8
          have hC8 : C w8 := by rw [hC] at hC7 ⊢; exact hC7.trans' hx8
          refine OW_nil (goY_mk hC8 ?_)
          refine oy_Sha7 (k := ?_)
          rw [hC] at hC8
          clear yk y7 hC7 hC C dK dW
          refine go_Sha7 (k := ?_)
          refine OW_callV Try.func72 (by kernel_rfl) rfl (turns_any w8 _ 2 13 22 (by decide) (by decide) (by decide)) rfl ?_
          intro w9 hx9
          refine go_Sha7 (k := ?_)
          refine ⟨⟨k + 1, hlt, rfl, rfl, rfl, rfl, rfl, rfl, rfl, ⟨_, hid.out, rfl, rfl, rfl, rfl, rfl, rfl, rfl, rfl⟩, (hxl.trans' hC8).trans' hx9⟩, ?_⟩
          show 64 - ((k : Int) + 1).toNat < 64 - (k : Int).toNat
          omega
        · have hge : k = 64 := by simp at hh; omega
          subst hge
          refine go_Sha7 (k := ?_)
          exact ⟨rfl, rfl, rfl, rfl, rfl, rfl, ⟨X, hX, rfl, rfl, rfl, rfl, rfl, rfl, rfl, rfl⟩, hxl⟩
      rintro e' w'' ⟨q2, q3, q4, q5, q6, ⟨X, hX, q8, q9, q10, q11, q12, q13, q14, q15⟩, hxl⟩
      rw [upd_self q2, upd_self q3, upd_self q4, upd_self q5, upd_self q6, upd_self q8, upd_self q9, upd_self q10, upd_self q11, upd_self q12, upd_self q13, upd_self q14, upd_self q15]
      clear q2 q3 q4 q5 q6 q8 q9 q10 q11 q12 q13 q14 q15
      rw [hX] at hnext
      replace r2 := r2.ext hxl
      replace rn := rn.ext hxl
      replace rk := rk.ext hxl
      replace hbs := hbs.ext hxl
      replace hx' := hx'.trans' hxl
      have hnx : Held (runB iv8 L (i + 1) = s.add X) := ⟨hnext⟩
      clear hX hnext hcw r7 hxl
      refine go_Sha7 (k := ?_)
      obtain ⟨cx, hcx⟩ : ∃ cx, s.cells.toArray = cx := ⟨_, rfl⟩
      have x0 : cx[(0 : Int).toNat]? = some (uv s.a) := by rw [← hcx]; rfl
      have x1 : cx[(1 : Int).toNat]? = some (uv s.b) := by rw [← hcx]; rfl
      have x2 : cx[(2 : Int).toNat]? = some (uv s.c) := by rw [← hcx]; rfl
      have x3 : cx[(3 : Int).toNat]? = some (uv s.d) := by rw [← hcx]; rfl
      have rx := rn
      rw [hcx] at rx
      have hid : Held (s.cells.toArray = cx) := ⟨hcx⟩
      clear hcx rn
      obtain ⟨C, hC⟩ : ∃ C : World → Prop, C = fun v => Ext w'' v := ⟨_, rfl⟩
      have yn : ∀ v, C v → Blk v gn 92 cx := fun v hv => by rw [hC] at hv; exact rx.ext hv
      refine CW_tree2 [6, 11, 16, 21] (.p 0 (.p 1 (.p 2 (.p 3 (.p 4 (.p 5 (.q 6 (.p 7 (.p 8 (.p 9 (.p 10 (.q 11 (.p 12 (.p 13 (.p 14 (.p 15 (.q 16 (.p 17 (.p 18 (.p 19 (.p 20 (.q 21 (.p 22 (.p 23 (.p 24 (.d 25 (.p 26 (.d 27 (.p 28 (.d 29 (.p 30 (.d 31 .done)))))))))))))))))))))))))))))))) (C) (by kernel_rfl) (by kernel_rfl) (by kernel_rfl) ?_ ?_
      · exact fun v hv => by rw [hC]; exact hv
      intro w7 hx7 hC7
      refine oy_Sha7 (k := ?_)
      rw [hC] at hC7
      have rn := rx.ext hC7
      rw [← hid.out] at rn
      clear yn rx hid x0 x1 x2 x3
      replace r2 := r2.ext hC7
      replace rk := rk.ext hC7
      replace hbs := hbs.ext hC7
      replace hx' := hx'.trans' hC7
      refine OW_storeB one_u32 rfl (uv (s.a + X.a)) rfl rfl rn (by show 0 < 8; omega) ?_
      clear rn
      intro w8a rn hgr
      have sx := hx'.size
      replace r2 := r2.only hgr n2n
      replace rk := rk.only hgr (Ne.symm nnk)
      replace hbs := hbs.keeps (Keeps.of_only hgr (S := (· = gn)) rfl) hAn
      replace hx' : Ext w _ := below_only hx' hgr nn sx
      clear hgr sx
      refine OW_nil (goY_drop (fun _ => True) trivial ?_)
      refine oy_Sha7 (k := ?_)
      refine OW_storeB one_u32 rfl (uv (s.b + X.b)) rfl rfl rn (by show 1 < 8; omega) ?_
      clear rn
      intro w8a rn hgr
      have sx := hx'.size
      replace r2 := r2.only hgr n2n
      replace rk := rk.only hgr (Ne.symm nnk)
      replace hbs := hbs.keeps (Keeps.of_only hgr (S := (· = gn)) rfl) hAn
      replace hx' : Ext w _ := below_only hx' hgr nn sx
      clear hgr sx
      refine OW_nil (goY_drop (fun _ => True) trivial ?_)
      refine oy_Sha7 (k := ?_)
      refine OW_storeB one_u32 rfl (uv (s.c + X.c)) rfl rfl rn (by show 2 < 8; omega) ?_
      clear rn
      intro w8a rn hgr
      have sx := hx'.size
      replace r2 := r2.only hgr n2n
      replace rk := rk.only hgr (Ne.symm nnk)
      replace hbs := hbs.keeps (Keeps.of_only hgr (S := (· = gn)) rfl) hAn
      replace hx' : Ext w _ := below_only hx' hgr nn sx
      clear hgr sx
      refine OW_nil (goY_drop (fun _ => True) trivial ?_)
      refine oy_Sha7 (k := ?_)
      refine OW_storeB one_u32 rfl (uv (s.d + X.d)) rfl rfl rn (by show 3 < 8; omega) ?_
      clear rn
      intro w8a rn hgr
      have sx := hx'.size
      replace r2 := r2.only hgr n2n
      replace rk := rk.only hgr (Ne.symm nnk)
      replace hbs := hbs.keeps (Keeps.of_only hgr (S := (· = gn)) rfl) hAn
      replace hx' : Ext w _ := below_only hx' hgr nn sx
      clear hgr sx
      refine OW_nil (goY_done ?_)
      replace rn : Blk _ gn 92 (([s.a + X.a, s.b + X.b, s.c + X.c, s.d + X.d, s.e, s.f, s.g, s.h] : List UInt32).map uv).toArray := rn
      clear hC7 hC C
      refine go_Sha7 (k := ?_)
      obtain ⟨cx, hcx⟩ : ∃ cx, (([s.a + X.a, s.b + X.b, s.c + X.c, s.d + X.d, s.e, s.f, s.g, s.h] : List UInt32).map uv).toArray = cx := ⟨_, rfl⟩
      have x4 : cx[(4 : Int).toNat]? = some (uv s.e) := by rw [← hcx]; rfl
      have x5 : cx[(5 : Int).toNat]? = some (uv s.f) := by rw [← hcx]; rfl
      have x6 : cx[(6 : Int).toNat]? = some (uv s.g) := by rw [← hcx]; rfl
      have x7 : cx[(7 : Int).toNat]? = some (uv s.h) := by rw [← hcx]; rfl
      have rx := rn
      rw [hcx] at rx
      have hid : Held ((([s.a + X.a, s.b + X.b, s.c + X.c, s.d + X.d, s.e, s.f, s.g, s.h] : List UInt32).map uv).toArray = cx) := ⟨hcx⟩
      clear hcx rn
      obtain ⟨C, hC⟩ : ∃ C : World → Prop, C = fun v => Ext w8a v := ⟨_, rfl⟩
      have yn : ∀ v, C v → Blk v gn 92 cx := fun v hv => by rw [hC] at hv; exact rx.ext hv
      refine CW_tree2 [6, 11, 16, 21] (.p 0 (.p 1 (.p 2 (.p 3 (.p 4 (.p 5 (.q 6 (.p 7 (.p 8 (.p 9 (.p 10 (.q 11 (.p 12 (.p 13 (.p 14 (.p 15 (.q 16 (.p 17 (.p 18 (.p 19 (.p 20 (.q 21 (.p 22 (.p 23 (.p 24 (.d 25 (.p 26 (.d 27 (.p 28 (.d 29 (.p 30 (.d 31 .done)))))))))))))))))))))))))))))))) (C) (by kernel_rfl) (by kernel_rfl) (by kernel_rfl) ?_ ?_
      · exact fun v hv => by rw [hC]; exact hv
      intro w7 hx7 hC7
      refine oy_Sha7 (k := ?_)
      rw [hC] at hC7
      have rn := rx.ext hC7
      rw [← hid.out] at rn
      clear yn rx hid x4 x5 x6 x7
      replace r2 := r2.ext hC7
      replace rk := rk.ext hC7
      replace hbs := hbs.ext hC7
      replace hx' := hx'.trans' hC7
      refine OW_storeB one_u32 rfl (uv (s.e + X.e)) rfl rfl rn (by show 4 < 8; omega) ?_
      clear rn
      intro w8b rn hgr
      have sx := hx'.size
      replace r2 := r2.only hgr n2n
      replace rk := rk.only hgr (Ne.symm nnk)
      replace hbs := hbs.keeps (Keeps.of_only hgr (S := (· = gn)) rfl) hAn
      replace hx' : Ext w _ := below_only hx' hgr nn sx
      clear hgr sx
      refine OW_nil (goY_drop (fun _ => True) trivial ?_)
      refine oy_Sha7 (k := ?_)
      refine OW_storeB one_u32 rfl (uv (s.f + X.f)) rfl rfl rn (by show 5 < 8; omega) ?_
      clear rn
      intro w8b rn hgr
      have sx := hx'.size
      replace r2 := r2.only hgr n2n
      replace rk := rk.only hgr (Ne.symm nnk)
      replace hbs := hbs.keeps (Keeps.of_only hgr (S := (· = gn)) rfl) hAn
      replace hx' : Ext w _ := below_only hx' hgr nn sx
      clear hgr sx
      refine OW_nil (goY_drop (fun _ => True) trivial ?_)
      refine oy_Sha7 (k := ?_)
      refine OW_storeB one_u32 rfl (uv (s.g + X.g)) rfl rfl rn (by show 6 < 8; omega) ?_
      clear rn
      intro w8b rn hgr
      have sx := hx'.size
      replace r2 := r2.only hgr n2n
      replace rk := rk.only hgr (Ne.symm nnk)
      replace hbs := hbs.keeps (Keeps.of_only hgr (S := (· = gn)) rfl) hAn
      replace hx' : Ext w _ := below_only hx' hgr nn sx
      clear hgr sx
      refine OW_nil (goY_drop (fun _ => True) trivial ?_)
      refine oy_Sha7 (k := ?_)
      refine OW_storeB one_u32 rfl (uv (s.h + X.h)) rfl rfl rn (by show 7 < 8; omega) ?_
      clear rn
      intro w8b rn hgr
      have sx := hx'.size
      replace r2 := r2.only hgr n2n
      replace rk := rk.only hgr (Ne.symm nnk)
      replace hbs := hbs.keeps (Keeps.of_only hgr (S := (· = gn)) rfl) hAn
      replace hx' : Ext w _ := below_only hx' hgr nn sx
      clear hgr sx
      refine OW_nil (goY_done ?_)
      replace rn : Blk _ gn 92 (([s.a + X.a, s.b + X.b, s.c + X.c, s.d + X.d, s.e + X.e, s.f + X.f, s.g + X.g, s.h + X.h] : List UInt32).map uv).toArray := rn
      clear hC7 hC C
      refine go_Sha7 (k := ?_)
      replace rn : Blk w8b gn 92 (runB iv8 L (i + 1)).cells.toArray := by rw [hnx.out]; exact rn
      refine ⟨⟨i + 1, hlt, rfl, rfl, rfl, rfl, ?_, r2, rn, rk, hbs, hx'⟩, ?_⟩
      · show (.int .i64 (((64 * i : Nat) : Int) + 64) : Value) = .int .i64 ((64 * (i + 1) : Nat) : Int)
        rw [show (((64 * (i + 1) : Nat)) : Int) = ((64 * i : Nat) : Int) + 64 by omega]
      · show L.length - (((64 * i : Nat) : Int) + 64).toNat < L.length - (((64 * i : Nat) : Int)).toNat
        omega
    · have hge : i = L.length / 64 := by simp at hh; omega
      subst hge
      rw [hsh] at rn
      refine go_Sha7 (k := ?_)
      exact ⟨rfl, rfl, rfl, r2, rn, hx⟩
  rintro e' w' ⟨q2, q3, r2, rn, hx⟩
  rw [upd_self q2, upd_self q3]
  clear q2 q3
  obtain ⟨z, hz⟩ : ∃ z, shaN b = z := ⟨_, rfl⟩
  rw [hz] at rn
  have hzz : shaL b = outB z := by unfold shaL; rw [hz]
  clear hz hsh
  refine go_Sha7 (k := ?_)
  refine OW_allocA s_agg_Tag ?_
  intro w5 g21 hb21 hg21 hl21 hx5
  have lnw := rn.lt
  have l2w := r2.lt
  replace r2 := r2.ext hx5
  replace rn := rn.ext hx5
  have sx := hx.size
  refine go_Sha7 (k := ?_)
  refine CW_meetB (fun e' w'' => e' 2 = .pointer (some ⟨g2, 0, none⟩) ∧ e' 21 = .pointer (some ⟨g21, 0, none⟩) ∧ Blk w'' g21 29 ((outB z).map bv).toArray ∧ Below g21 w5 w'') ?_ ?_
  · refine CW_loop (fun e' w'' => ∃ i : Nat, i ≤ 8 ∧ e' 2 = .pointer (some ⟨g2, 0, none⟩) ∧ e' 3 = .slice (some ⟨gn, 0, none⟩) 8 8 ∧ e' 21 = .pointer (some ⟨g21, 0, none⟩) ∧ e' 22 = .int .i64 i ∧ Blk w'' g21 29 ((outJ z (4 * i)).map bv).toArray ∧ Below g21 w5 w'') (fun e' _ => 8 - (intOf (e' 22)).toNat) ?_ ?_
    · exact ⟨0, by omega, rfl, rfl, rfl, rfl, by rw [outJ_0]; exact hb21, Below.refl _ _⟩
    rintro e' w'' ⟨i, hi, q2, q3, q21, q22, r21, hbl⟩
    rw [upd_self q2, upd_self q3, upd_self q21, upd_self q22]
    clear q2 q3 q21 q22
    refine go_Sha7 (k := ?_)
    refine CW_cond _ rfl (fun hh => ?_) (fun hh => ?_)
    · have hlt : i < 8 := by simp at hh; omega
      clear hh
      refine go_Sha7 (k := ?_)
      refine OW_isLoad ?_
      refine OW_loadBk one_u32 rfl (rn.below hbl (by omega)) (uv (z.l.getD i 0)) (by rw [show ((i : Nat) : Int).toNat = i by omega]; exact cells_get hlt) ?_
      obtain ⟨x, hx2⟩ : ∃ x, z.l.getD i 0 = x := ⟨_, rfl⟩
      rw [hx2]
      refine go_Sha7 (k := ?_)
      rw [wrap_u64_lt _ (by have := u32_lt x; omega)]
      refine OW_callBs Try.func73 (by kernel_rfl) rfl (refPut_any _ x.toNat 4 4 rfl (by decide) (by have := u32_lt x; omega)) rfl ?_
      intro w6 A6 c6 hf6
      have hbs6 := hf6.bs
      have hg6 := own_block hf6.own
      have sbl := hbl.size
      have l21 := r21.lt
      replace r21 := r21.ext hf6.ext
      replace hbl : Below g21 w5 w6 := hbl.trans (hf6.ext.mono (by omega))
      refine go_Sha7 (k := ?_)
      refine CW_meetB (fun e' w7 => e' 2 = .pointer (some ⟨g2, 0, none⟩) ∧ e' 3 = .slice (some ⟨gn, 0, none⟩) 8 8 ∧ e' 21 = .pointer (some ⟨g21, 0, none⟩) ∧ e' 22 = .int .i64 i ∧ Blk w7 g21 29 ((outJ z (4 * i + 4)).map bv).toArray ∧ Below g21 w5 w7) ?_ ?_
      · refine CW_loop (fun e' w7 => ∃ m : Nat, m ≤ 4 ∧ e' 2 = .pointer (some ⟨g2, 0, none⟩) ∧ e' 3 = .slice (some ⟨gn, 0, none⟩) 8 8 ∧ e' 21 = .pointer (some ⟨g21, 0, none⟩) ∧ e' 22 = .int .i64 i ∧ e' 23 = .slice A6 (putL x.toNat 4).length c6 ∧ e' 24 = .int .i64 m ∧ Blk w7 g21 29 ((outJ z (4 * i + m)).map bv).toArray ∧ Below g21 w5 w7 ∧ w6.grownBy w7 (some g21)) (fun e' _ => 4 - (intOf (e' 24)).toNat) ?_ ?_
        · exact ⟨0, by omega, rfl, rfl, rfl, rfl, rfl, rfl, r21, hbl, World.grownBy.refl _ _⟩
        clear r21 hbl
        rintro e' w7 ⟨m, hm, q2, q3, q21, q22, q23, q24, r21, hbl, hgr0⟩
        rw [upd_self q2, upd_self q3, upd_self q21, upd_self q22, upd_self q23, upd_self q24]
        clear q2 q3 q21 q22 q23 q24
        refine go_Sha7 (k := ?_)
        refine CW_cond _ rfl (fun hh => ?_) (fun hh => ?_)
        · have hltm : m < 4 := by simp at hh; omega
          clear hh
          have hget := outB_get z i hlt m hltm
          rw [hx2] at hget
          have hpl : (putL x.toNat 4).length = 4 := putL_length _ _
          rw [List.getElem?_eq_getElem (show m < (putL x.toNat 4).length by omega)] at hget
          obtain ⟨ad, hAd, hcA⟩ := (hbs6.keeps (Keeps.of_only hgr0 (S := (· = g21)) rfl) (fun ad ha => by have := hg6 ad ha; omega)).at_ (j := m) (by omega)
          subst hAd
          obtain ⟨v, hv⟩ : ∃ v, (putL x.toNat 4)[m]'(by omega) = v := ⟨_, rfl⟩
          rw [hv] at hget hcA
          have hne : ad.block ≠ g21 := by have := hg6 ad rfl; omega
          refine go_Sha7 (k := ?_)
          refine OW_idxAB s_und_Tag one_u8 rfl rfl (4 * i + m) (by omega) (by omega) ?_
          refine go_Sha7 (k := ?_)
          refine OW_storeB one_u8 rfl (bv v) rfl rfl r21 (by simp [outJ_length z (show 4 * i + m ≤ 32 by omega)]; omega) ?_
          intro w8 r21' hgr
          rw [outJ_set z (by omega) hget] at r21'
          refine go_Sha7 (k := ?_)
          refine ⟨⟨m + 1, hltm, rfl, rfl, rfl, rfl, rfl, rfl, r21', hbl.trans (only_below hgr (Nat.le_refl _) (by have := r21.lt; omega)), grown_trans' hgr0 hgr⟩, ?_⟩
          show 4 - ((m : Int) + 1).toNat < 4 - (m : Int).toNat
          omega
        · have hge : m = 4 := by simp at hh; omega
          subst hge
          refine go_Sha7 (k := ?_)
          exact ⟨rfl, rfl, rfl, rfl, rfl, r21, hbl⟩
      clear r21 hbl
      rintro e' w7 ⟨q2, q3, q21, q22, r21, hbl⟩
      rw [upd_self q2, upd_self q3, upd_self q21, upd_self q22]
      clear q2 q3 q21 q22
      refine go_Sha7 (k := ?_)
      refine ⟨⟨i + 1, hlt, rfl, rfl, rfl, rfl, r21, hbl⟩, ?_⟩
      show 8 - ((i : Int) + 1).toNat < 8 - (i : Int).toNat
      omega
    · have hge : i = 8 := by simp at hh; omega
      subst hge
      refine go_Sha7 (k := ?_)
      exact ⟨rfl, rfl, rfl, by rw [← outJ_32]; exact r21, hbl⟩
  rintro e' w7 ⟨q2, q21, r21, hbl⟩
  rw [upd_self q2, upd_self q21]
  clear q2 q21
  have hlen : ((outB z).map bv).length = 32 := by rw [List.length_map, outB_length]
  refine go_Sha7 (k := ?_)
  refine OW_loadAB s_agg_Tag rfl ((outB z).map bv) r21 hlen ?_
  refine go_Sha7 (k := ?_)
  refine OW_storeA s_agg_Tag rfl ((outB z).map bv) rfl hlen (r2.below hbl (by omega)) rfl (bv_one _) ?_
  intro w8 h8 hgr
  refine go_Sha7 (k := ?_)
  rw [hzz]
  have hx5' := hx.trans' hx5
  have s5 := hbl.size
  have hx7 : Ext w w7 := Below.trans hx5' (hbl.mono (by omega))
  exact bodyE_retc rfl s_agg_Tag rfl ((outB z).map bv) hlen h8.range ⟨rfl, below_only hx7 hgr (by omega) hx7.size⟩
end Go.Proofs.Ytdpcahfgdpikfaa

/- HMAC, plainly. No program in sight. -/
namespace Go.Proofs.Ytdpcahfgdpikfaa
open Go Go.RowKit
set_option linter.unusedVariables false
/-- A key's block, plainly. -/
def keyK (key : List UInt8) : List UInt8 := if 64 < key.length then shaL key else key
def keyB (key : List UInt8) : List UInt8 := keyK key ++ List.replicate (64 - (keyK key).length) 0
def xorB (x : UInt8) (l : List UInt8) : List UInt8 := l.map (· ^^^ x)
theorem keyK_length (key : List UInt8) : (keyK key).length ≤ 64 := by
  unfold keyK
  split
  · rw [shaL_length]; decide
  · omega
theorem keyB_length (key : List UInt8) : (keyB key).length = 64 := by
  have := keyK_length key
  simp [keyB]
  omega
theorem xorB_length (x : UInt8) (l : List UInt8) : (xorB x l).length = l.length := by simp [xorB]
def hmacL (key b : List UInt8) : List UInt8 := shaL (xorB 92 (keyB key) ++ shaL (xorB 54 (keyB key) ++ b))
theorem hmacL_length (key b : List UInt8) : (hmacL key b).length = 32 := shaL_length _
/-- A key that is too long does as its tag. -/
theorem hmacL_long {key : List UInt8} (h : 64 < key.length) (b : List UInt8) : hmacL (shaL key) b = hmacL key b := by
  have h1 : keyK (shaL key) = shaL key := by unfold keyK; rw [if_neg (by rw [shaL_length]; decide)]
  have h2 : keyK key = shaL key := by unfold keyK; rw [if_pos h]
  unfold hmacL keyB
  rw [h1, h2]
/-- Noughts behind a key. -/
theorem hmacL_pad {key : List UInt8} {n : Nat} (h : key.length + n ≤ 64) (b : List UInt8) : hmacL (key ++ List.replicate n 0) b = hmacL key b := by
  have h1 : keyK (key ++ List.replicate n 0) = key ++ List.replicate n 0 := by unfold keyK; rw [if_neg (by rw [List.length_append, List.length_replicate]; omega)]
  have h2 : keyK key = key := by unfold keyK; rw [if_neg (by omega)]
  have h3 : keyB (key ++ List.replicate n 0) = keyB key := by
    unfold keyB
    rw [h1, h2, List.append_assoc, List.length_append, List.length_replicate, List.replicate_append_replicate]
    congr 2
    omega
  unfold hmacL
  rw [h3]
end Go.Proofs.Ytdpcahfgdpikfaa

/- Walks: HMAC, the program's and the reference's. -/
namespace Go.Proofs.Ytdpcahfgdpikfaa
open Go Go.RowKit
set_option linter.unusedVariables false
set_option maxRecDepth 4000
theorem go_Hm1 {A B : Prop} (h : Held B → A := by
  intro hEnd
  repeat (first | refine OW_moveV (.int _ _) rfl ?_ | refine OW_moveV (.slice _ _ _) rfl ?_ | refine OW_moveV (.bool _) rfl ?_ | refine OW_moveV (.pointer _) rfl ?_ | refine OW_moveV (.string _) rfl ?_ | refine OW_moveV (.agg _) rfl ?_ | refine OW_moveV (.tuple _) rfl ?_ | refine OW_nil ?_ | refine thenE_normal ?_ | refine CW_seq ?_ | refine CW_region (by kernel_rfl) ?_ | refine OW_assignV (.int _ _) rfl ?_ | refine OW_assignV (.slice _ _ _) rfl ?_ | refine OW_assignV (.bool _) rfl ?_ | refine OW_assignV (.pointer _) rfl ?_ | refine OW_assignV (.string _) rfl ?_ | refine OW_assignV (.agg _) rfl ?_ | refine OW_assignV (.tuple _) rfl ?_ | refine OW_addI rfl rfl (by omega) ?_ | refine OW_subI rfl rfl (by omega) ?_ | refine OW_mulI rfl rfl (by omega) ?_ | refine OW_lss rfl rfl ?_ | refine OW_extract rfl rfl ?_ | refine OW_gtr rfl rfl ?_ | refine OW_leq rfl rfl ?_ | refine OW_geq rfl rfl ?_ | refine OW_eql rfl rfl ?_ | refine OW_neq rfl rfl ?_ | refine OW_not rfl ?_ | refine OW_pickT rfl _ rfl ?_ | refine OW_pickF rfl (.bool _) rfl ?_ | refine OW_pickB rfl rfl rfl ?_ | refine OW_move ?_ | refine OW_assign ?_ | refine OW_pass rfl ?_ | refine OW_take rfl ?_ | refine OW_lenS (by first | with_reducible exact und_bytes | with_reducible exact und_bytess) rfl ?_ | refine OW_convInt (by first | with_reducible exact und_u8 | with_reducible exact und_u64 | with_reducible exact und_int | with_reducible exact und_u32) (by first | with_reducible exact und_u8 | with_reducible exact und_u64 | with_reducible exact und_int | with_reducible exact und_u32) rfl ?_ | refine OW_add rfl rfl ?_ | refine OW_sub rfl rfl ?_ | refine OW_mul rfl rfl ?_ | refine OW_min2 rfl rfl ?_ | refine OW_max2 rfl rfl ?_ | refine OW_neg rfl ?_ | refine CW_block ?_ | refine CW_condT rfl ?_ | refine CW_condF rfl ?_ | refine CW_exit ?_ | refine CW_ret ?_ | refine CW_skip ?_ | refine LW_seq ?_ | refine LW_regC ?_ | refine LW_condC ?_ | refine LW_regF ?_ | refine LW_condF ?_ | refine FW_seq ?_ | refine FW_region (by kernel_rfl) ?_ | refine FW_block ?_ | refine FW_condT rfl ?_ | refine FW_condF rfl ?_ | refine FW_exit ?_ | refine FW_ret ?_ | refine FW_skip ?_ | refine LW_ret ?_ | refine LW_skip ?_ | refine thenE_exit ?_ | refine thenE_ret ?_ | refine inBlockE_normal ?_ | refine inBlockE_same ?_ | refine inBlockE_ret ?_ | refine inBlockE_ne (by rfl) ?_ | refine OW_eqlB (by with_reducible exact und_bool) rfl rfl ?_ | refine OW_neqB (by with_reducible exact und_bool) rfl rfl ?_ | refine OW_idxS (by with_reducible exact und_bytes) one_u8 rfl rfl _ rfl (by omega) ?_ | refine OW_idxS (by with_reducible exact und_bytess) one_bytes rfl rfl _ rfl (by omega) ?_ | refine OW_load1 (by first | with_reducible exact one_u8 | with_reducible exact one_bytes) rfl _ (by assumption) ?_)
  exact hEnd.out) (k : B) : A := h ⟨k⟩
theorem h_slp_Tag : SlP Try.prog 29 32 := ⟨fun w g => by kernel_rfl⟩
theorem bs_zeros {w : World} {g n : Nat} {T : TypeId} (hb : Blk w g T (Array.replicate n (.int .u8 0))) : Bs w (some ⟨g, 0, none⟩) (List.replicate n 0) := by
  unfold Bs
  have := hb.rd
  rwa [Array.toList_replicate, show List.replicate n (Value.int .u8 0) = (List.replicate n (0 : UInt8)).map bv by rw [List.map_replicate]; rfl] at this
theorem bs_row {w : World} {g : Nat} {T : TypeId} {l : List UInt8} (hb : Blk w g T (l.map bv).toArray) : Bs w (some ⟨g, 0, none⟩) l := by
  unfold Bs
  simpa using hb.rd
set_option maxHeartbeats 8000000 in
theorem hblocks_any (w : World) (A : Option Addr) (c : Nat) (key : List UInt8) (hb : Bs w A key) (hc : key.length ≤ c) (hl : key.length ≤ 100000) :
    Calls Try.prog 67 #[.slice A key.length c] w (fun en w' => ∃ g A4 c4, en = .returned (.func (.func 101) #[] #[.pointer (some ⟨g, 0, none⟩)]) ∧ Blk w' g 22 #[.slice A4 (keyB key).length c4] ∧ Bs w' A4 (keyB key) ∧ Ext w w') := by
  refine calls_of_CW Try.func67 rfl (by simp [Try.ntmps67]) ?_
  rw [Try.ntmps67]
  refine go_Hm1 (k := ?_)
  refine CW_meet (fun e' w' => ∃ A' c', e' 0 = .slice A' (keyK key).length c' ∧ Bs w' A' (keyK key) ∧ Ext w w') ?_ ?_
  · refine CW_cond _ rfl (fun h => ?_) (fun h => ?_)
    · have hlt : 64 < key.length := by simp at h; omega
      have hk : keyK key = shaL key := by unfold keyK; rw [if_pos hlt]
      refine go_Hm1 (k := ?_)
      refine OW_callV Try.func19 (by kernel_rfl) rfl (shaSum_any w A c key hb (by omega)) rfl ?_
      intro w1 hx1
      refine go_Hm1 (k := ?_)
      refine OW_allocA s_agg_Tag ?_
      intro w2 g3 hb3 hg3 hl3 hx2
      refine go_Hm1 (k := ?_)
      refine OW_storeA s_agg_Tag rfl ((shaL key).map bv) rfl (by rw [List.length_map, shaL_length]) hb3 rfl (bv_one _) ?_
      intro w3 hb3' hgr
      refine go_Hm1 (k := ?_)
      refine OW_sliceP h_slp_Tag rfl ?_
      refine go_Hm1 (k := ?_)
      refine ⟨rfl, some ⟨g3, 0, none⟩, 32, by rw [hk, shaL_length]; rfl, by rw [hk]; exact bs_row hb3', below_only (hx1.trans' hx2) hgr (by have := hx1.size; omega) (hx1.trans' hx2).size⟩
    · have hle : key.length ≤ 64 := by simp at h; omega
      have hk : keyK key = key := by unfold keyK; rw [if_neg (by omega)]
      refine go_Hm1 (k := ?_)
      exact ⟨rfl, A, c, by rw [hk]; rfl, by rw [hk]; exact hb, Ext.rfl' _⟩
  rintro e' w' ⟨A', c', q0, hbk, hx⟩
  rw [upd_self q0]
  have hkl := keyK_length key
  have hkb : keyB key = keyK key ++ List.replicate (64 - (keyK key).length) 0 := rfl
  refine go_Hm1 (k := ?_)
  refine OW_make und_bytes info_u8 rfl rfl rfl (show 64 - ((keyK key).length : Int) = ((64 - (keyK key).length : Nat) : Int) by omega) (by omega) (by omega) (by unfold maxLen; omega) ?_
  intro w4 g4 hb4 hg4 hx4
  have hz := bs_zeros hb4
  refine go_Hm1 (k := ?_)
  refine OW_lit [.slice A' (keyK key).length c', .slice (some ⟨g4, 0, none⟩) (64 - (keyK key).length) (64 - (keyK key).length)] und_bytess info_bytes rfl rfl (by simp [Value.oneCell']) (by decide) ?_
  intro w5 g5 hb5 hg5 hx5
  have hcat := cat_any w5 (some ⟨g5, 0, none⟩) 2 [(A', c', keyK key), (some ⟨g4, 0, none⟩, 64 - (keyK key).length, List.replicate (64 - (keyK key).length) 0)] (by
      have := hb5.rd
      simpa [sv] using this) (fun x hx => by
      simp only [List.mem_cons, List.not_mem_nil, or_false] at hx
      rcases hx with rfl | rfl
      · exact (hbk.ext hx4).ext hx5
      · exact hz.ext hx5) (by simp) (by simp [flat]; omega)
  rw [show flat [(A', c', keyK key), (some ⟨g4, 0, none⟩, 64 - (keyK key).length, List.replicate (64 - (keyK key).length) 0)] = keyB key by rw [hkb]; simp [flat]] at hcat
  refine go_Hm1 (k := ?_)
  refine OW_callBs Try.func20 (by kernel_rfl) rfl hcat rfl ?_
  intro w6 A6 c6 hf6
  refine go_Hm1 (k := ?_)
  refine OW_alloc1 (.slice none 0 0) (fun w => by kernel_rfl) ?_
  intro w7 g7 hb7 hg7 hl7 hx7
  refine go_Hm1 (k := ?_)
  refine OW_storeB one_bytes rfl (.slice A6 (keyB key).length c6) rfl rfl hb7 (Nat.one_pos) ?_
  intro w8 hb8 hgr
  refine go_Hm1 (k := ?_)
  refine OW_mkFunc [.pointer (some ⟨g7, 0, none⟩)] rfl ?_
  refine go_Hm1 (k := ?_)
  have hx06 := ((hx.trans' hx4).trans' hx5).trans' hf6.ext
  have hk6 : Keeps w7 w8 (· = g7) := Keeps.of_only hgr rfl
  exact bodyE_ret1 rfl _ rfl ⟨g7, A6, c6, rfl, hb8, (hf6.bs.ext hx7).keeps hk6 (fun ad ha => by have := own_block hf6.own ad ha; omega), below_only (hx06.trans' hx7) hgr (by have := hx06.size; omega) (hx06.trans' hx7).size⟩
def xorT (x : UInt8) (l : List UInt8) (k : Nat) : List UInt8 := (l.take k).map (· ^^^ x) ++ l.drop k
theorem xorT_length (x : UInt8) (l : List UInt8) (k : Nat) : (xorT x l k).length = l.length := by simp [xorT]; omega
theorem xorT_get {x : UInt8} {l : List UInt8} {k : Nat} (h : k < l.length) : (xorT x l k)[k]'(by rw [xorT_length]; exact h) = l[k] := by
  unfold xorT
  rw [List.getElem_append_right (by simp; omega)]
  simp [Nat.min_eq_left (Nat.le_of_lt h)]
theorem xorT_set {x : UInt8} {l : List UInt8} {k : Nat} (h : k < l.length) : (xorT x l k).set k (l[k] ^^^ x) = xorT x l (k + 1) := by
  unfold xorT
  rw [List.set_append_right _ _ (by simp; omega)]
  rw [take_succ_get _ _ h, List.map_append, List.append_assoc]
  simp [Nat.min_eq_left (Nat.le_of_lt h)]
  rw [List.drop_eq_getElem_cons h]
  rfl
set_option maxHeartbeats 8000000 in
theorem hb1_any (w : World) (x : UInt8) (g : Nat) (A : Option Addr) (c : Nat) (K : List UInt8) (hg : Blk w g 22 #[.slice A K.length c]) (hb : Bs w A K) (hl : K.length ≤ 100000) :
    Calls Try.prog 101 #[.int .u8 (x.toNat : Int), .pointer (some ⟨g, 0, none⟩)] w (RetBs 5 w (xorB x K)) := by
  refine calls_of_CW Try.func101 rfl (by simp [Try.ntmps101]) ?_
  rw [Try.ntmps101]
  refine go_Hm1 (k := ?_)
  refine OW_isLoad ?_
  refine OW_loadBk one_bytes rfl hg (.slice A K.length c) rfl ?_
  refine go_Hm1 (k := ?_)
  refine OW_lit [.slice A K.length c] und_bytess info_bytes rfl rfl (by simp [Value.oneCell']) (by decide) ?_
  intro w1 g1 hb1 hg1 hx1
  have hcat := cat_any w1 (some ⟨g1, 0, none⟩) 1 [(A, c, K)] (by
      have := hb1.rd
      simpa [sv] using this) (fun x hx => by
      simp only [List.mem_cons, List.not_mem_nil, or_false] at hx
      subst hx
      exact hb.ext hx1) (by simp) (by simp [flat]; omega)
  rw [show flat [(A, c, K)] = K by simp [flat]] at hcat
  refine go_Hm1 (k := ?_)
  refine OW_callBs Try.func20 (by kernel_rfl) rfl hcat rfl ?_
  intro w2 A2 c2 hf2
  have hx02 := hx1.trans' hf2.ext
  have ho := own_mono hf2.own hx1.size
  refine go_Hm1 (k := ?_)
  refine CW_meetB (fun e' w' => e' 4 = .slice A2 K.length c2 ∧ w'.ownsRow w.heap.size 5 1 (.slice A2 K.length c2) K.length ((xorB x K).map bv) ∧ Ext w w') ?_ ?_
  · refine CW_loop (fun e' w' => ∃ k : Nat, k ≤ K.length ∧ e' 0 = .int .u8 (x.toNat : Int) ∧ e' 4 = .slice A2 K.length c2 ∧ e' 10 = .int .i64 K.length ∧ e' 11 = .int .i64 k ∧ w'.ownsRow w.heap.size 5 1 (.slice A2 K.length c2) K.length ((xorT x K k).map bv) ∧ Ext w w') (fun e' _ => K.length - (intOf (e' 11)).toNat) ?_ ?_
    · exact ⟨0, by omega, rfl, rfl, rfl, rfl, by simpa [xorT] using ho, hx02⟩
    rintro e' w' ⟨k, hk, q0, q4, q10, q11, ho, hx⟩
    rw [upd_self q0, upd_self q4, upd_self q10, upd_self q11]
    refine go_Hm1 (k := ?_)
    refine CW_cond _ rfl (fun h => ?_) (fun h => ?_)
    · have hlt : k < K.length := by simpa using h
      obtain ⟨g2, cur, hA, hg2, _⟩ := own_blk ho (by omega)
      subst hA
      have hcell := inc_cell ho (xorT_length x K k) hlt
      have hst := inc_step ho (xorT_length x K k) hlt (K[k] ^^^ x)
      rw [xorT_get hlt] at hcell
      rw [xorT_set hlt] at hst
      refine go_Hm1 (k := ?_)
      refine OW_xor rfl rfl _ (xor_bv _ _) ?_
      refine go_Hm1 (k := ?_)
      rw [add0] at hcell ⊢
      refine OW_store1 one_u8 rfl (bv (K[k] ^^^ x)) (bv K[k]) rfl rfl hcell (ho.frozenAt k) ?_
      refine go_Hm1 (k := ?_)
      refine ⟨⟨k + 1, hlt, rfl, rfl, rfl, rfl, hst.1, below_only hx hst.2 hg2 hx.size⟩, ?_⟩
      show K.length - ((k : Int) + 1).toNat < K.length - (k : Int).toNat
      omega
    · have hge : k = K.length := by simp at h; omega
      subst hge
      refine go_Hm1 (k := ?_)
      refine ⟨rfl, rfl, ?_, hx⟩
      have : xorT x K K.length = xorB x K := by simp [xorT, xorB]
      rw [← this]; exact ho
  rintro e' w' ⟨q4, ho, hx⟩
  rw [upd_self q4]
  have hn : K.length = (xorB x K).length := (xorB_length x K).symm
  rw [hn] at ho ⊢
  refine go_Hm1 (k := ?_)
  exact bodyE_ret1 rfl (.slice A2 _ c2) rfl ⟨A2, c2, rfl, ho, hx⟩
end Go.Proofs.Ytdpcahfgdpikfaa
