/- ShaPieces: a hash that is written any pieces, and asked behind each, tells what the chapter says. No condition. -/
import Derived.Test.YtdpcahfgdpikfaaShaE
import Derived.Test.YtdpcahfgdpikfaaShaL
import Derived.Test.YtdpcahfgdpikfaaSha7
import Derived.Test.YtdpcahfgdpikfaaWorth
import Derived.Test.YtdpcahfgdpikfaaOrd3
namespace Go.Proofs.Ytdpcahfgdpikfaa.lawShaPieces
open Go.ChangeShapes Go.WideShapes Go.ChangeAt Go.RowKit
set_option linter.unusedVariables false
set_option maxRecDepth 4000
theorem go_LShaPieces {A B : Prop} (h : Held B → A := by
  intro hEnd
  repeat (first | (refine OW_isLoad ?_; refine OW_loadT s_agg_Tag rfl (by apply_assumption; assumption) (by assumption) ?_) | refine OW_neqRF s_eqr_Tag rfl rfl (by assumption) ?_ | refine OW_neqZ rfl rfl rfl ?_ | refine OW_moveV (.int _ _) rfl ?_ | refine OW_moveV (.slice _ _ _) rfl ?_ | refine OW_moveV (.bool _) rfl ?_ | refine OW_moveV (.pointer _) rfl ?_ | refine OW_moveV (.string _) rfl ?_ | refine OW_moveV (.agg _) rfl ?_ | refine OW_moveV (.tuple _) rfl ?_ | refine OW_nil ?_ | refine thenE_normal ?_ | refine CW_seq ?_ | refine CW_region (by kernel_rfl) ?_ | refine OW_assignV (.int _ _) rfl ?_ | refine OW_assignV (.slice _ _ _) rfl ?_ | refine OW_assignV (.bool _) rfl ?_ | refine OW_assignV (.pointer _) rfl ?_ | refine OW_assignV (.string _) rfl ?_ | refine OW_assignV (.agg _) rfl ?_ | refine OW_assignV (.tuple _) rfl ?_ | refine OW_addI rfl rfl (by omega) ?_ | refine OW_subI rfl rfl (by omega) ?_ | refine OW_mulI rfl rfl (by omega) ?_ | refine OW_lss rfl rfl ?_ | refine OW_extract rfl rfl ?_ | refine OW_gtr rfl rfl ?_ | refine OW_leq rfl rfl ?_ | refine OW_geq rfl rfl ?_ | refine OW_eql rfl rfl ?_ | refine OW_neq rfl rfl ?_ | refine OW_not rfl ?_ | refine OW_pickT rfl _ rfl ?_ | refine OW_pickF rfl (.bool _) rfl ?_ | refine OW_pickB rfl rfl rfl ?_ | refine OW_move ?_ | refine OW_assign ?_ | refine OW_pass rfl ?_ | refine OW_take rfl ?_ | refine OW_lenS (by first | with_reducible exact und_bytes | with_reducible exact und_bytess) rfl ?_ | refine OW_convInt (by first | with_reducible exact und_u8 | with_reducible exact und_u64 | with_reducible exact und_int | with_reducible exact und_u32) (by first | with_reducible exact und_u8 | with_reducible exact und_u64 | with_reducible exact und_int | with_reducible exact und_u32) rfl ?_ | refine OW_add rfl rfl ?_ | refine OW_sub rfl rfl ?_ | refine OW_mul rfl rfl ?_ | refine OW_min2 rfl rfl ?_ | refine OW_max2 rfl rfl ?_ | refine OW_neg rfl ?_ | refine CW_block ?_ | refine CW_condT rfl ?_ | refine CW_condF rfl ?_ | refine CW_exit ?_ | refine CW_ret ?_ | refine CW_skip ?_ | refine LW_seq ?_ | refine LW_regC ?_ | refine LW_condC ?_ | refine LW_regF ?_ | refine LW_condF ?_ | refine FW_seq ?_ | refine FW_region (by kernel_rfl) ?_ | refine FW_block ?_ | refine FW_condT rfl ?_ | refine FW_condF rfl ?_ | refine FW_exit ?_ | refine FW_ret ?_ | refine FW_skip ?_ | refine LW_ret ?_ | refine LW_skip ?_ | refine thenE_exit ?_ | refine thenE_ret ?_ | refine inBlockE_normal ?_ | refine inBlockE_same ?_ | refine inBlockE_ret ?_ | refine inBlockE_ne (by rfl) ?_ | refine OW_eqlB (by with_reducible exact und_bool) rfl rfl ?_ | refine OW_neqB (by with_reducible exact und_bool) rfl rfl ?_ | refine OW_idxS (by with_reducible exact und_bytes) one_u8 rfl rfl _ rfl (by omega) ?_ | refine OW_idxS (by with_reducible exact und_bytess) one_bytes rfl rfl _ rfl (by omega) ?_ | refine OW_load1 (by first | with_reducible exact one_u8 | with_reducible exact one_bytes) rfl _ (by assumption) ?_ | refine OW_idxS und_bytess one_bytess rfl rfl _ rfl (by omega) ?_ | refine OW_idxS und_bytess one_bytes rfl rfl _ rfl (by omega) ?_ | refine OW_load1 one_bytes rfl _ (by assumption) ?_)
  exact hEnd.out) (k : B) : A := h ⟨k⟩
theorem oy_LShaPieces {A B : Prop} (h : Held B → A := by
  intro hEnd
  repeat (first
    | refine OY_done ?_
    | (apply OY_p _ rfl
       · intro wd
         (first | (refine OW_isLoad ?_; refine OW_loadT s_agg_Tag rfl (by apply_assumption; assumption) (by assumption) ?_) | refine OW_neqRF s_eqr_Tag rfl rfl (by assumption) ?_ | refine OW_neqZ rfl rfl rfl ?_ | refine OW_moveV (.int _ _) rfl ?_ | refine OW_moveV (.slice _ _ _) rfl ?_ | refine OW_moveV (.bool _) rfl ?_ | refine OW_moveV (.pointer _) rfl ?_ | refine OW_moveV (.string _) rfl ?_ | refine OW_moveV (.agg _) rfl ?_ | refine OW_moveV (.tuple _) rfl ?_ | refine OW_nil ?_ | refine thenE_normal ?_ | refine CW_seq ?_ | refine CW_region (by kernel_rfl) ?_ | refine OW_assignV (.int _ _) rfl ?_ | refine OW_assignV (.slice _ _ _) rfl ?_ | refine OW_assignV (.bool _) rfl ?_ | refine OW_assignV (.pointer _) rfl ?_ | refine OW_assignV (.string _) rfl ?_ | refine OW_assignV (.agg _) rfl ?_ | refine OW_assignV (.tuple _) rfl ?_ | refine OW_addI rfl rfl (by omega) ?_ | refine OW_subI rfl rfl (by omega) ?_ | refine OW_mulI rfl rfl (by omega) ?_ | refine OW_lss rfl rfl ?_ | refine OW_extract rfl rfl ?_ | refine OW_gtr rfl rfl ?_ | refine OW_leq rfl rfl ?_ | refine OW_geq rfl rfl ?_ | refine OW_eql rfl rfl ?_ | refine OW_neq rfl rfl ?_ | refine OW_not rfl ?_ | refine OW_pickT rfl _ rfl ?_ | refine OW_pickF rfl (.bool _) rfl ?_ | refine OW_pickB rfl rfl rfl ?_ | refine OW_move ?_ | refine OW_assign ?_ | refine OW_pass rfl ?_ | refine OW_take rfl ?_ | refine OW_lenS (by first | with_reducible exact und_bytes | with_reducible exact und_bytess) rfl ?_ | refine OW_convInt (by first | with_reducible exact und_u8 | with_reducible exact und_u64 | with_reducible exact und_int | with_reducible exact und_u32) (by first | with_reducible exact und_u8 | with_reducible exact und_u64 | with_reducible exact und_int | with_reducible exact und_u32) rfl ?_ | refine OW_add rfl rfl ?_ | refine OW_sub rfl rfl ?_ | refine OW_mul rfl rfl ?_ | refine OW_min2 rfl rfl ?_ | refine OW_max2 rfl rfl ?_ | refine OW_neg rfl ?_ | refine CW_block ?_ | refine CW_condT rfl ?_ | refine CW_condF rfl ?_ | refine CW_exit ?_ | refine CW_ret ?_ | refine CW_skip ?_ | refine LW_seq ?_ | refine LW_regC ?_ | refine LW_condC ?_ | refine LW_regF ?_ | refine LW_condF ?_ | refine FW_seq ?_ | refine FW_region (by kernel_rfl) ?_ | refine FW_block ?_ | refine FW_condT rfl ?_ | refine FW_condF rfl ?_ | refine FW_exit ?_ | refine FW_ret ?_ | refine FW_skip ?_ | refine LW_ret ?_ | refine LW_skip ?_ | refine thenE_exit ?_ | refine thenE_ret ?_ | refine inBlockE_normal ?_ | refine inBlockE_same ?_ | refine inBlockE_ret ?_ | refine inBlockE_ne (by rfl) ?_ | refine OW_eqlB (by with_reducible exact und_bool) rfl rfl ?_ | refine OW_neqB (by with_reducible exact und_bool) rfl rfl ?_ | refine OW_idxS (by with_reducible exact und_bytes) one_u8 rfl rfl _ rfl (by omega) ?_ | refine OW_idxS (by with_reducible exact und_bytess) one_bytes rfl rfl _ rfl (by omega) ?_ | refine OW_load1 (by first | with_reducible exact one_u8 | with_reducible exact one_bytes) rfl _ (by assumption) ?_ | refine OW_idxS und_bytess one_bytess rfl rfl _ rfl (by omega) ?_ | refine OW_idxS und_bytess one_bytes rfl rfl _ rfl (by omega) ?_ | refine OW_load1 one_bytes rfl _ (by assumption) ?_)
         refine OW_nil ?_
         exact stay_mk _ _ _ _)
    | (apply OY_q _ rfl
       · intro wd hwd
         (first | (refine OW_isLoad ?_; refine OW_loadT s_agg_Tag rfl (by apply_assumption; assumption) (by assumption) ?_) | refine OW_neqRF s_eqr_Tag rfl rfl (by assumption) ?_ | refine OW_neqZ rfl rfl rfl ?_ | refine OW_moveV (.int _ _) rfl ?_ | refine OW_moveV (.slice _ _ _) rfl ?_ | refine OW_moveV (.bool _) rfl ?_ | refine OW_moveV (.pointer _) rfl ?_ | refine OW_moveV (.string _) rfl ?_ | refine OW_moveV (.agg _) rfl ?_ | refine OW_moveV (.tuple _) rfl ?_ | refine OW_nil ?_ | refine thenE_normal ?_ | refine CW_seq ?_ | refine CW_region (by kernel_rfl) ?_ | refine OW_assignV (.int _ _) rfl ?_ | refine OW_assignV (.slice _ _ _) rfl ?_ | refine OW_assignV (.bool _) rfl ?_ | refine OW_assignV (.pointer _) rfl ?_ | refine OW_assignV (.string _) rfl ?_ | refine OW_assignV (.agg _) rfl ?_ | refine OW_assignV (.tuple _) rfl ?_ | refine OW_addI rfl rfl (by omega) ?_ | refine OW_subI rfl rfl (by omega) ?_ | refine OW_mulI rfl rfl (by omega) ?_ | refine OW_lss rfl rfl ?_ | refine OW_extract rfl rfl ?_ | refine OW_gtr rfl rfl ?_ | refine OW_leq rfl rfl ?_ | refine OW_geq rfl rfl ?_ | refine OW_eql rfl rfl ?_ | refine OW_neq rfl rfl ?_ | refine OW_not rfl ?_ | refine OW_pickT rfl _ rfl ?_ | refine OW_pickF rfl (.bool _) rfl ?_ | refine OW_pickB rfl rfl rfl ?_ | refine OW_move ?_ | refine OW_assign ?_ | refine OW_pass rfl ?_ | refine OW_take rfl ?_ | refine OW_lenS (by first | with_reducible exact und_bytes | with_reducible exact und_bytess) rfl ?_ | refine OW_convInt (by first | with_reducible exact und_u8 | with_reducible exact und_u64 | with_reducible exact und_int | with_reducible exact und_u32) (by first | with_reducible exact und_u8 | with_reducible exact und_u64 | with_reducible exact und_int | with_reducible exact und_u32) rfl ?_ | refine OW_add rfl rfl ?_ | refine OW_sub rfl rfl ?_ | refine OW_mul rfl rfl ?_ | refine OW_min2 rfl rfl ?_ | refine OW_max2 rfl rfl ?_ | refine OW_neg rfl ?_ | refine CW_block ?_ | refine CW_condT rfl ?_ | refine CW_condF rfl ?_ | refine CW_exit ?_ | refine CW_ret ?_ | refine CW_skip ?_ | refine LW_seq ?_ | refine LW_regC ?_ | refine LW_condC ?_ | refine LW_regF ?_ | refine LW_condF ?_ | refine FW_seq ?_ | refine FW_region (by kernel_rfl) ?_ | refine FW_block ?_ | refine FW_condT rfl ?_ | refine FW_condF rfl ?_ | refine FW_exit ?_ | refine FW_ret ?_ | refine FW_skip ?_ | refine LW_ret ?_ | refine LW_skip ?_ | refine thenE_exit ?_ | refine thenE_ret ?_ | refine inBlockE_normal ?_ | refine inBlockE_same ?_ | refine inBlockE_ret ?_ | refine inBlockE_ne (by rfl) ?_ | refine OW_eqlB (by with_reducible exact und_bool) rfl rfl ?_ | refine OW_neqB (by with_reducible exact und_bool) rfl rfl ?_ | refine OW_idxS (by with_reducible exact und_bytes) one_u8 rfl rfl _ rfl (by omega) ?_ | refine OW_idxS (by with_reducible exact und_bytess) one_bytes rfl rfl _ rfl (by omega) ?_ | refine OW_load1 (by first | with_reducible exact one_u8 | with_reducible exact one_bytes) rfl _ (by assumption) ?_ | refine OW_idxS und_bytess one_bytess rfl rfl _ rfl (by omega) ?_ | refine OW_idxS und_bytess one_bytes rfl rfl _ rfl (by omega) ?_ | refine OW_load1 one_bytes rfl _ (by assumption) ?_ | (refine OW_isLoad ?_; refine OW_loadBk (by first | with_reducible exact one_u8 | with_reducible exact one_bytes | with_reducible exact one_bool | with_reducible exact one_int | with_reducible exact one_errno | with_reducible exact one_u32 | with_reducible exact one_u64 | with_reducible exact one_string) rfl (by apply_assumption; assumption) _ (by first | assumption | rfl) ?_) | refine OW_load1 (by first | with_reducible exact one_u8 | with_reducible exact one_bytes | with_reducible exact one_bool | with_reducible exact one_int | with_reducible exact one_errno | with_reducible exact one_u32 | with_reducible exact one_u64 | with_reducible exact one_string) rfl _ (by apply_assumption; assumption) ?_)
         refine OW_nil ?_
         exact stay_mk _ _ _ _)
    | refine OY_ppass rfl rfl ?_
    | refine OY_qpass rfl rfl ?_
    | (apply OY_ptake _ rfl rfl
       · intro wd
         (first | (refine OW_isLoad ?_; refine OW_loadT s_agg_Tag rfl (by apply_assumption; assumption) (by assumption) ?_) | refine OW_neqRF s_eqr_Tag rfl rfl (by assumption) ?_ | refine OW_neqZ rfl rfl rfl ?_ | refine OW_moveV (.int _ _) rfl ?_ | refine OW_moveV (.slice _ _ _) rfl ?_ | refine OW_moveV (.bool _) rfl ?_ | refine OW_moveV (.pointer _) rfl ?_ | refine OW_moveV (.string _) rfl ?_ | refine OW_moveV (.agg _) rfl ?_ | refine OW_moveV (.tuple _) rfl ?_ | refine OW_nil ?_ | refine thenE_normal ?_ | refine CW_seq ?_ | refine CW_region (by kernel_rfl) ?_ | refine OW_assignV (.int _ _) rfl ?_ | refine OW_assignV (.slice _ _ _) rfl ?_ | refine OW_assignV (.bool _) rfl ?_ | refine OW_assignV (.pointer _) rfl ?_ | refine OW_assignV (.string _) rfl ?_ | refine OW_assignV (.agg _) rfl ?_ | refine OW_assignV (.tuple _) rfl ?_ | refine OW_addI rfl rfl (by omega) ?_ | refine OW_subI rfl rfl (by omega) ?_ | refine OW_mulI rfl rfl (by omega) ?_ | refine OW_lss rfl rfl ?_ | refine OW_extract rfl rfl ?_ | refine OW_gtr rfl rfl ?_ | refine OW_leq rfl rfl ?_ | refine OW_geq rfl rfl ?_ | refine OW_eql rfl rfl ?_ | refine OW_neq rfl rfl ?_ | refine OW_not rfl ?_ | refine OW_pickT rfl _ rfl ?_ | refine OW_pickF rfl (.bool _) rfl ?_ | refine OW_pickB rfl rfl rfl ?_ | refine OW_move ?_ | refine OW_assign ?_ | refine OW_pass rfl ?_ | refine OW_take rfl ?_ | refine OW_lenS (by first | with_reducible exact und_bytes | with_reducible exact und_bytess) rfl ?_ | refine OW_convInt (by first | with_reducible exact und_u8 | with_reducible exact und_u64 | with_reducible exact und_int | with_reducible exact und_u32) (by first | with_reducible exact und_u8 | with_reducible exact und_u64 | with_reducible exact und_int | with_reducible exact und_u32) rfl ?_ | refine OW_add rfl rfl ?_ | refine OW_sub rfl rfl ?_ | refine OW_mul rfl rfl ?_ | refine OW_min2 rfl rfl ?_ | refine OW_max2 rfl rfl ?_ | refine OW_neg rfl ?_ | refine CW_block ?_ | refine CW_condT rfl ?_ | refine CW_condF rfl ?_ | refine CW_exit ?_ | refine CW_ret ?_ | refine CW_skip ?_ | refine LW_seq ?_ | refine LW_regC ?_ | refine LW_condC ?_ | refine LW_regF ?_ | refine LW_condF ?_ | refine FW_seq ?_ | refine FW_region (by kernel_rfl) ?_ | refine FW_block ?_ | refine FW_condT rfl ?_ | refine FW_condF rfl ?_ | refine FW_exit ?_ | refine FW_ret ?_ | refine FW_skip ?_ | refine LW_ret ?_ | refine LW_skip ?_ | refine thenE_exit ?_ | refine thenE_ret ?_ | refine inBlockE_normal ?_ | refine inBlockE_same ?_ | refine inBlockE_ret ?_ | refine inBlockE_ne (by rfl) ?_ | refine OW_eqlB (by with_reducible exact und_bool) rfl rfl ?_ | refine OW_neqB (by with_reducible exact und_bool) rfl rfl ?_ | refine OW_idxS (by with_reducible exact und_bytes) one_u8 rfl rfl _ rfl (by omega) ?_ | refine OW_idxS (by with_reducible exact und_bytess) one_bytes rfl rfl _ rfl (by omega) ?_ | refine OW_load1 (by first | with_reducible exact one_u8 | with_reducible exact one_bytes) rfl _ (by assumption) ?_ | refine OW_idxS und_bytess one_bytess rfl rfl _ rfl (by omega) ?_ | refine OW_idxS und_bytess one_bytes rfl rfl _ rfl (by omega) ?_ | refine OW_load1 one_bytes rfl _ (by assumption) ?_)
         refine OW_nil ?_
         exact stay_mk _ _ _ _)
    | (apply OY_qtake _ rfl rfl
       · intro wd hwd
         (first | (refine OW_isLoad ?_; refine OW_loadT s_agg_Tag rfl (by apply_assumption; assumption) (by assumption) ?_) | refine OW_neqRF s_eqr_Tag rfl rfl (by assumption) ?_ | refine OW_neqZ rfl rfl rfl ?_ | refine OW_moveV (.int _ _) rfl ?_ | refine OW_moveV (.slice _ _ _) rfl ?_ | refine OW_moveV (.bool _) rfl ?_ | refine OW_moveV (.pointer _) rfl ?_ | refine OW_moveV (.string _) rfl ?_ | refine OW_moveV (.agg _) rfl ?_ | refine OW_moveV (.tuple _) rfl ?_ | refine OW_nil ?_ | refine thenE_normal ?_ | refine CW_seq ?_ | refine CW_region (by kernel_rfl) ?_ | refine OW_assignV (.int _ _) rfl ?_ | refine OW_assignV (.slice _ _ _) rfl ?_ | refine OW_assignV (.bool _) rfl ?_ | refine OW_assignV (.pointer _) rfl ?_ | refine OW_assignV (.string _) rfl ?_ | refine OW_assignV (.agg _) rfl ?_ | refine OW_assignV (.tuple _) rfl ?_ | refine OW_addI rfl rfl (by omega) ?_ | refine OW_subI rfl rfl (by omega) ?_ | refine OW_mulI rfl rfl (by omega) ?_ | refine OW_lss rfl rfl ?_ | refine OW_extract rfl rfl ?_ | refine OW_gtr rfl rfl ?_ | refine OW_leq rfl rfl ?_ | refine OW_geq rfl rfl ?_ | refine OW_eql rfl rfl ?_ | refine OW_neq rfl rfl ?_ | refine OW_not rfl ?_ | refine OW_pickT rfl _ rfl ?_ | refine OW_pickF rfl (.bool _) rfl ?_ | refine OW_pickB rfl rfl rfl ?_ | refine OW_move ?_ | refine OW_assign ?_ | refine OW_pass rfl ?_ | refine OW_take rfl ?_ | refine OW_lenS (by first | with_reducible exact und_bytes | with_reducible exact und_bytess) rfl ?_ | refine OW_convInt (by first | with_reducible exact und_u8 | with_reducible exact und_u64 | with_reducible exact und_int | with_reducible exact und_u32) (by first | with_reducible exact und_u8 | with_reducible exact und_u64 | with_reducible exact und_int | with_reducible exact und_u32) rfl ?_ | refine OW_add rfl rfl ?_ | refine OW_sub rfl rfl ?_ | refine OW_mul rfl rfl ?_ | refine OW_min2 rfl rfl ?_ | refine OW_max2 rfl rfl ?_ | refine OW_neg rfl ?_ | refine CW_block ?_ | refine CW_condT rfl ?_ | refine CW_condF rfl ?_ | refine CW_exit ?_ | refine CW_ret ?_ | refine CW_skip ?_ | refine LW_seq ?_ | refine LW_regC ?_ | refine LW_condC ?_ | refine LW_regF ?_ | refine LW_condF ?_ | refine FW_seq ?_ | refine FW_region (by kernel_rfl) ?_ | refine FW_block ?_ | refine FW_condT rfl ?_ | refine FW_condF rfl ?_ | refine FW_exit ?_ | refine FW_ret ?_ | refine FW_skip ?_ | refine LW_ret ?_ | refine LW_skip ?_ | refine thenE_exit ?_ | refine thenE_ret ?_ | refine inBlockE_normal ?_ | refine inBlockE_same ?_ | refine inBlockE_ret ?_ | refine inBlockE_ne (by rfl) ?_ | refine OW_eqlB (by with_reducible exact und_bool) rfl rfl ?_ | refine OW_neqB (by with_reducible exact und_bool) rfl rfl ?_ | refine OW_idxS (by with_reducible exact und_bytes) one_u8 rfl rfl _ rfl (by omega) ?_ | refine OW_idxS (by with_reducible exact und_bytess) one_bytes rfl rfl _ rfl (by omega) ?_ | refine OW_load1 (by first | with_reducible exact one_u8 | with_reducible exact one_bytes) rfl _ (by assumption) ?_ | refine OW_idxS und_bytess one_bytess rfl rfl _ rfl (by omega) ?_ | refine OW_idxS und_bytess one_bytes rfl rfl _ rfl (by omega) ?_ | refine OW_load1 one_bytes rfl _ (by assumption) ?_ | (refine OW_isLoad ?_; refine OW_loadBk (by first | with_reducible exact one_u8 | with_reducible exact one_bytes | with_reducible exact one_bool | with_reducible exact one_int | with_reducible exact one_errno | with_reducible exact one_u32 | with_reducible exact one_u64 | with_reducible exact one_string) rfl (by apply_assumption; assumption) _ (by first | assumption | rfl) ?_) | refine OW_load1 (by first | with_reducible exact one_u8 | with_reducible exact one_bytes | with_reducible exact one_bool | with_reducible exact one_int | with_reducible exact one_errno | with_reducible exact one_u32 | with_reducible exact one_u64 | with_reducible exact one_string) rfl _ (by apply_assumption; assumption) ?_)
         refine OW_nil ?_
         exact stay_mk _ _ _ _)
    | refine OY_a (actY_of rfl ?_)
    | refine OY_d (actY_of rfl ?_)
    | refine OY_a (actY_pass rfl rfl ?_)
    | refine OY_d (actY_pass rfl rfl ?_)
    | refine OY_a (actY_take rfl rfl ?_)
    | refine OY_d (actY_take rfl rfl ?_))
  exact hEnd.out) (k : B) : A := h ⟨k⟩
section
variable {P : Program} {ops : Array Oper} {Q : Exit → (Nat → Value) → World → Prop} {rest : List Oper} {e : Nat → Value} {w : World} {d : Tmp} {ty : TypeId} {pos : String} {aft : Array Edge}
theorem OW_neqZ {x y : Operand} {t t' : TypeId} {k : IntKind} {a b : Int} (hx : ev e x = .int k a) (hy : ev e y = .int k b) (hab : a = b) (h : OW P ops Q rest (upd e d (.bool false)) w) : OW P ops Q (⟨some d, .binOp .neq t x y t', ty, pos, aft, none⟩ :: rest) e w := by
  refine OW_neq hx hy ?_
  rw [show (a != b) = false by simp [hab]]
  exact h
end
set_option maxHeartbeats 8000000 in
theorem lenH_any (w : World) (g : Nat) (S : Nat → Prop) (l : List UInt8) (h : HR w g S l) : Calls Try.prog 25 #[.pointer (some ⟨g, 0, none⟩)] w (RetV w (.int .i64 l.length)) := by
  obtain ⟨A, c, h1, _⟩ := h.at_
  exact len_any w g _ _ _ _ _ h1
set_option maxHeartbeats 8000000 in
theorem long2_any (w : World) (A : Option Addr) (c : Nat) (vs : List BV) (h : ArgL w A vs) (hl : vs.length ≤ 140737488351232) (hv : ∀ v ∈ vs, v.2.2.length ≤ 140737488351232) :
    Calls Try.prog 23 #[.slice A vs.length c, .int .i64 2000] w (RetV w (.bool (decide (2000 < worth 1 vs)))) := by
  refine calls_of_CW Try.func23 rfl (by simp [Try.ntmps23]) ?_
  rw [Try.ntmps23]
  refine go_LShaPieces (k := ?_)
  refine CW_loop (fun e' w' => ∃ k : Nat, k ≤ vs.length ∧ e' 0 = .slice A vs.length c ∧ e' 1 = .int .i64 2000 ∧ e' 5 = .int .i64 (worth 1 (vs.take k)) ∧ e' 6 = .int .i64 k ∧ worth 1 (vs.take k) ≤ 2000 ∧ w' = w) (fun e' _ => vs.length - (intOf (e' 6)).toNat) ?_ ?_
  · exact ⟨0, by omega, rfl, rfl, rfl, rfl, by simp [worth], rfl⟩
  rintro e1 w1 ⟨k, hk, q0, q1, q3, q4, hle, rfl⟩
  rw [upd_self q0, upd_self q1, upd_self q3, upd_self q4]
  refine go_LShaPieces (k := ?_)
  refine CW_cond _ rfl (fun hh => ?_) (fun hh => ?_)
  · have hlt : k < vs.length := by simpa using hh
    clear hh
    obtain ⟨ad, rfl, hcA⟩ := h.cell hlt
    have hvA := hv _ (List.getElem_mem hlt)
    have hs : worth 1 (vs.take (k + 1)) = worth 1 (vs.take k) + ((vs[k]).2.2.length + 1) := by rw [take_succ_get _ _ hlt, worth_snoc]
    have ht := worth_take_le 1 vs (k + 1)
    generalize vs[k] = x at *
    obtain ⟨xA, xc, xl⟩ := x
    replace hcA : w1.cell? (ad.add k) = some (.slice xA xl.length xc) := hcA
    simp only at hvA hs
    refine go_LShaPieces (k := ?_)
    refine CW_cond _ rfl (fun h2 => ?_) (fun h2 => ?_)
    · have hgt : 2000 < worth 1 vs := by have := of_decide_eq_true h2; omega
      rw [decide_eq_true hgt]
      refine go_LShaPieces (k := ?_)
      exact bodyE_ret1 rfl (.bool true) rfl ⟨rfl, Ext.rfl' _⟩
    · have hle2 : worth 1 (vs.take (k + 1)) ≤ 2000 := by have := of_decide_eq_false h2; omega
      refine go_LShaPieces (k := ?_)
      refine ⟨⟨k + 1, hlt, rfl, rfl, by rw [hs]; simp only [Int.natCast_add]; rw [Int.add_assoc]; rfl, rfl, hle2, rfl⟩, ?_⟩
      show vs.length - ((k : Int) + 1).toNat < vs.length - (k : Int).toNat
      omega
  · have hge : k = vs.length := by simp at hh; omega
    subst hge
    rw [List.take_length] at hle
    rw [decide_eq_false (by omega)]
    refine go_LShaPieces (k := ?_)
    exact bodyE_ret1 rfl (.bool false) rfl ⟨rfl, Ext.rfl' _⟩
set_option maxHeartbeats 8000000 in
theorem walk (w : World) (v0 : Value) (l : List (List UInt8)) (h0 : kBss.R w [v0] l) : Calls Try.prog 5 #[v0] w (RetV w (.bool true)) := by
  obtain ⟨A, c, hv0, hc, hcm, hs⟩ := h0
  injection hv0 with hv0
  subst hv0
  have hsm := slr_small hs
  obtain ⟨vs, rfl, hA⟩ := bvs_of hs
  clear hs
  rw [List.length_map] at hc ⊢
  have hsv : ∀ v ∈ vs, v.2.2.length ≤ 140737488351232 := fun v hv => hsm _ (List.mem_map.2 ⟨v, hv, rfl⟩)
  clear hsm
  refine calls_of_CW Try.func5 rfl (by simp [Try.ntmps5]) ?_
  rw [Try.ntmps5]
  refine go_LShaPieces (k := ?_)
  refine OW_callV Try.func23 (by kernel_rfl) rfl (long2_any w A c vs hA (by omega) hsv) rfl ?_
  intro w1 hx1
  refine go_LShaPieces (k := ?_)
  refine CW_cond _ rfl (fun h => ?_) (fun h => ?_)
  · refine go_LShaPieces (k := ?_)
    exact bodyE_ret1 rfl (.bool true) rfl ⟨rfl, hx1⟩
  have hw : worth 1 vs ≤ 2000 := by have := of_decide_eq_false h; omega
  clear h
  have hvl := worth_len (n := 1) vs
  have hwe := fun v (hv : v ∈ vs) => worth_each (n := 1) hv
  have hfl := fun k => flatK_le 1 vs k
  refine go_LShaPieces (k := ?_)
  refine OW_callC Try.func15 (by kernel_rfl) rfl (newHash_any w1) rfl ?_
  rintro en w2 ⟨g, rfl, hg, hx2, hR2⟩
  refine ⟨_, rfl, ?_⟩
  have hlo2 : ∀ k, more (fun _ => False) w1 w2 k → w.heap.size ≤ k := fun k hk => by rcases hk with h | h; exact h.elim; have := hx1.size; omega
  generalize more (fun _ => False) w1 w2 = S2 at *
  have hx02 := hx1.trans' hx2
  refine go_LShaPieces (k := ?_)
  refine CW_loop (fun e' w' => ∃ (i : Nat) (S : Nat → Prop) (A4 : Option Addr) (c4 : Nat), i ≤ vs.length ∧ e' 0 = .slice A vs.length c ∧ e' 3 = .pointer (some ⟨g, 0, none⟩) ∧ e' 4 = .slice A4 (flatK vs i).length c4 ∧ e' 5 = .int .i64 i ∧ HR w' g S (flatK vs i) ∧ (∀ k, S k → w.heap.size ≤ k) ∧
      (w'.ownsRow w.heap.size 5 1 (.slice A4 (flatK vs i).length c4) (flatK vs i).length ((flatK vs i).map bv) ∧ ∀ ad, A4 = some ad → ¬ S ad.block) ∧ Ext w w') (fun e' _ => vs.length + 1 - (intOf (e' 5)).toNat) ?_ ?_
  · exact ⟨0, S2, none, 0, by omega, rfl, rfl, by rw [flatK_zero]; rfl, rfl, by rw [flatK_zero]; exact hR2, hlo2, ⟨by rw [flatK_zero]; exact World.ownsRow_nil _ _ _ _, fun ad h => by cases h⟩, hx02⟩
  clear hR2 hlo2
  rintro e3 w3 ⟨i, S, A4, c4, hi, q0, q3, q4, q5, hR, hlo, ⟨ho, hoS⟩, hx⟩
  rw [upd_self q0, upd_self q3, upd_self q4, upd_self q5]
  have hXl := hfl i
  have hsl := shaL_length (flatK vs i)
  have hSum := hsum_any w3 g S _ hR (by omega)
  have hRef := fun (v : World) (hv : Ext w3 v) => refSum_any v A4 c4 (flatK vs i) (own_rd (own_ext ho hv)) (by omega)
  have hstep : ∀ h : i < vs.length, flatK vs (i + 1) = flatK vs i ++ (vs[i]).2.2 := fun h => flatK_succ h
  generalize flatK vs i = X at *
  generalize shaL X = T at *
  have hTl : (T.map bv).length = 32 := by rw [List.length_map, hsl]
  refine go_LShaPieces (k := ?_)
  refine CW_cond _ rfl (fun hh => ?_) (fun hh => ?_)
  rotate_left 1
  · exfalso
    have := of_decide_eq_false hh
    omega
  clear hh
  refine go_LShaPieces (k := ?_)
  refine OW_callV Try.func17 (by kernel_rfl) rfl hSum rfl ?_
  intro w4 hx4
  refine go_LShaPieces (k := ?_)
  refine OW_allocA s_agg_Tag ?_
  intro w5 g6 hb6 hg6 hl6 hx5
  refine go_LShaPieces (k := ?_)
  refine OW_storeA s_agg_Tag rfl (T.map bv) rfl hTl hb6 rfl (bv_one _) ?_
  intro w6 hb6' hgr6
  have hx36 : Ext w3 w6 := below_only (hx4.trans' hx5) hgr6 (by have := hx4.size; omega) (hx4.trans' hx5).size
  clear hb6 hSum
  refine go_LShaPieces (k := ?_)
  obtain ⟨C, hC⟩ : ∃ C : World → Prop, C = fun v => Ext w6 v := ⟨_, rfl⟩
  have y_hb6' := blkE hC hb6'
  refine CW_tree2 [3] (.p 0 (.p 1 (.p 2 (.q 3 (.p 4 (.a 5 (.p 6 (.p 7 (.p 8 (.p 9 (.p 11 (.p 12 (.d 10 (.p 13 (.p 14 .done))))))))))))))) (C) (by kernel_rfl) (by kernel_rfl) (by kernel_rfl) ?_ ?_
  · exact inE hC
  intro w7 hx7 h_C
  refine oy_LShaPieces (k := ?_)
  refine OW_callV Try.func24 (by kernel_rfl) rfl (hRef w7 (hx36.trans' hx7)) rfl ?_
  intro w8 hx8
  first | refine OW_nil (goY_mkE hC (hx7.trans' hx8) ?_) | refine OW_nil (goY_dropE hC (hx7.trans' hx8) ?_)
  refine oy_LShaPieces (k := ?_)
  have hx38 := (hx36.trans' hx7).trans' hx8
  refine OW_callV Try.func25 (by kernel_rfl) rfl (lenH_any w8 g S X (hR.ext hx38)) rfl ?_
  intro w9 hx9
  first | refine OW_nil (goY_mkE hC ((hx7.trans' hx8).trans' hx9) ?_) | refine OW_nil (goY_dropE hC ((hx7.trans' hx8).trans' hx9) ?_)
  refine oy_LShaPieces (k := ?_)
  have hx39 := hx38.trans' hx9
  have hR9 := hR.ext hx39
  have ho9 := own_ext ho hx39
  have hx09 := hx.trans' hx39
  clear hR ho hRef hb6' y_hb6'
  refine go_LShaPieces (k := ?_)
  refine CW_cond _ rfl (fun hh => ?_) (fun hh => ?_)
  · refine go_LShaPieces (k := ?_)
    exact bodyE_ret1 rfl (.bool true) rfl ⟨rfl, hx09⟩
  have hlt : i < vs.length := by
    have : ¬ (i : Int) = vs.length := by simpa using hh
    omega
  clear hh
  obtain ⟨ad, rfl, _⟩ := (hA.ext hx1).cell hlt
  have hcell : ∀ {v : World}, Ext w v → v.cell? (ad.add i) = some (.slice (vs[i]).1 (vs[i]).2.2.length (vs[i]).2.1) := fun {v} hv => by
    obtain ⟨ad', ha', hc'⟩ := (hA.ext hv).cell hlt
    cases ha'
    exact hc'
  have hbA := (hA.bs _ (List.getElem_mem hlt)).1
  have hwx := hwe _ (List.getElem_mem hlt)
  have hs := hstep hlt
  generalize vs[i] = x at *
  obtain ⟨xA, xc, xl⟩ := x
  replace hcell : ∀ {v : World}, Ext w v → v.cell? (ad.add i) = some (.slice xA xl.length xc) := hcell
  simp only at hbA hwx hs
  have hcA := hcell hx09
  refine go_LShaPieces (k := ?_)
  refine OW_callBs Try.func26 (by kernel_rfl) rfl (refCopy_any _ xA xl xc (hbA.ext hx09) (by omega)) rfl ?_
  intro w10 M cM hM
  have hbM := own_block hM.own
  have bd9 := hR9.bd
  have oM : ∀ ad, M = some ad → ¬ S ad.block := fun ad ha hh => by have := bd9 _ hh; have := (hbM ad ha).1; omega
  refine go_LShaPieces (k := ?_)
  refine OW_callC Try.func16 (by kernel_rfl) rfl (hwrite_any w10 g S X (hR9.ext hM.ext) M cM xl hM.bs (by omega)) rfl ?_
  rintro en w11 ⟨rfl, hR11, hK11⟩
  refine ⟨_, rfl, ?_⟩
  have hx10 := hx09.trans' hM.ext
  have hx11 : Ext w w11 := hK11.ext hx10 hlo
  have oM11 := own_keeps hM.own hK11 oM
  have ho11 := own_keeps (own_ext ho9 hM.ext) hK11 hoS
  have hb9 := own_block ho9
  have hoS11 : ∀ ad, A4 = some ad → ¬ more S w10 w11 ad.block := fun ad ha hh => by
    rcases hh with hh | hh
    · exact hoS ad ha hh
    · have := (hb9 ad ha).2; have := hM.ext.size; omega
  have oM12 : ∀ ad, M = some ad → ¬ more S w10 w11 ad.block := fun ad ha hh => by
    rcases hh with hh | hh
    · exact oM ad ha hh
    · have := (hbM ad ha).2; omega
  have oMA : ∀ a1 a2, M = some a1 → A4 = some a2 → a1.block ≠ a2.block := fun a1 a2 h1 h2 => by have := (hbM a1 h1).1; have := (hb9 a2 h2).2; omega
  have hlo11 : ∀ k, more S w10 w11 k → w.heap.size ≤ k := fun k hk => by
    rcases hk with h | h
    · exact hlo k h
    · have := hx10.size; omega
  have hcA11 := hcell hx11
  have s09 := hx09.size
  generalize more S w10 w11 = S11 at *
  clear hR9 ho9 hoS hlo oM hK11 hcA
  refine go_LShaPieces (k := ?_)
  refine OW_callV Try.func27 (by kernel_rfl) rfl (refSame_any w11 M xA xl xl cM xc (own_rd oM11) (hbA.ext hx11) (by omega)) rfl ?_
  intro w12 hx12
  rw [beq_self_eq_true]
  have oM12' := own_ext oM11 hx12
  have hx012 := hx11.trans' hx12
  refine go_LShaPieces (k := ?_)
  refine CW_loop (fun e' w' => ∃ (k : Nat) (zs : List UInt8), k ≤ xl.length ∧ zs.length = xl.length ∧ e' 8 = .slice M xl.length cM ∧ e' 9 = .int .i64 k ∧ e' 0 = .slice (some ad) vs.length c ∧ e' 3 = .pointer (some ⟨g, 0, none⟩) ∧ e' 4 = .slice A4 X.length c4 ∧ e' 5 = .int .i64 i ∧ w'.ownsRow w9.heap.size 5 1 (.slice M xl.length cM) xl.length (zs.map bv) ∧ w12.grownBy w' (Value.ownBlock (.slice M xl.length cM))) (fun e' _ => xl.length - (intOf (e' 9)).toNat) ?_ ?_
  · exact ⟨0, xl, Nat.zero_le _, rfl, rfl, rfl, rfl, rfl, rfl, rfl, oM12', World.grownBy.refl _ _⟩
  rintro ea wa ⟨ka, za, hak, haz, has, hai, qa_0, qa_3, qa_4, qa_5, hao, hag⟩
  rw [upd_self has, upd_self hai, upd_self qa_0, upd_self qa_3, upd_self qa_4, upd_self qa_5]
  refine go_LShaPieces (k := ?_)
  refine CW_cond _ rfl (fun hh => ?_) (fun _ => ?_)
  · have hlt : ka < xl.length := by simpa using hh
    obtain ⟨g, cur, hA, hg, _⟩ := own_blk hao (by omega)
    subst hA
    have hcell := inc_cell hao haz hlt
    have hst := inc_step hao haz hlt (za[ka]'(by omega) + 1)
    refine go_LShaPieces (k := ?_)
    rw [inc_u8]
    refine go_LShaPieces (k := ?_)
    rw [add0] at hcell ⊢
    refine OW_store1 one_u8 rfl (bv (za[ka]'(by omega) + 1)) (bv (za[ka]'(by omega))) rfl rfl hcell (hao.frozenAt ka) ?_
    refine go_LShaPieces (k := ?_)
    refine ⟨⟨ka + 1, _, by omega, by simp [haz], rfl, rfl, rfl, rfl, rfl, rfl, hst.1, grown_trans' hag hst.2⟩, ?_⟩
    show xl.length - ((ka : Int) + 1).toNat < xl.length - (ka : Int).toNat
    omega
  have hKa : Keeps w12 wa (fun k => ∃ ad, M = some ad ∧ ad.block = k) := Keeps.of_grown hag (fun g hg => by
    cases M with
    | none => cases hg
    | some ad => cases hg; exact ⟨ad, rfl, rfl⟩)
  have hxa : Ext w wa := hKa.ext hx012 (fun k ⟨ad, ha, hh⟩ => by have := (hbM ad ha).1; omega)
  have hRa := (hR11.ext hx12).keeps hKa (fun k hk ⟨ad, ha, hh⟩ => oM12 ad ha (hh ▸ hk))
  have hoa := own_keeps (own_ext ho11 hx12) hKa (fun a2 h2 ⟨a1, h1, hh⟩ => oMA a1 a2 h1 h2 hh)
  have hcAa := hcell hxa
  clear hcA11 hR11 ho11 oM11 oM12'
  refine go_LShaPieces (k := ?_)
  refine OW_appendK und_bytes info_u8 rfl rfl rfl hoa (hbA.ext hxa) (by simp) (bv_one _) (by unfold maxLen; omega) (by omega) hxa.size ?_
  intro w14 A7 c7 ho7 hg7 hw7
  have hx7' : Ext w w14 := grown_ext hxa hoa hg7
  have hK7 : Keeps wa w14 (fun k => ∃ ad, A4 = some ad ∧ ad.block = k) := Keeps.of_grown hg7 (fun g hg => by
    cases A4 with
    | none => cases hg
    | some ad => cases hg; exact ⟨ad, rfl, rfl⟩)
  have hR14 := hRa.keeps hK7 (fun k hk ⟨ad, ha, hh⟩ => hoS11 ad ha (hh ▸ hk))
  have hoS7 : ∀ ad, A7 = some ad → ¬ S11 ad.block := fun ad ha hh => by
    rcases hw7 with h | h
    · rw [ha] at h
      cases A4 with
      | none => cases h
      | some a0 =>
        have : ad.block = a0.block := by simpa [Value.ownBlock] using h
        exact hoS11 a0 rfl (this ▸ hh)
    · rw [ha] at h
      have : ad.block = wa.heap.size := by simpa [Value.ownBlock] using h
      have := hRa.bd _ hh; omega
  rw [← List.map_append, ← List.length_append] at ho7
  refine go_LShaPieces (k := ?_)
  refine ⟨⟨i + 1, S11, A7, c7, ?_⟩, ?_⟩
  · rw [hs]
    exact ⟨hlt, rfl, rfl, by rw [List.length_append]; rfl, rfl, hR14, hlo11, ⟨ho7, hoS7⟩, hx7'⟩
  · show vs.length + 1 - ((i : Int) + 1).toNat < vs.length + 1 - (i : Int).toNat
    omega
set_option maxRecDepth 100000 in
theorem lifted (os : Os) (started : os.Started) (H : Type) (enc : TypeId × Value → H) :
    ReturnsInHanded {} Try.checked os 5 .any (Rows.shaPiecesSpec.pre6 enc Try.prog Try.f5 Rows.shaPiecesRow.domain false) (Rows.shaPiecesSpec.post enc Try.prog Try.f5 false true false false) := by
  refine returnsInHanded_of_change_sized (C := Try.checked) ownP started (by kernel_rfl) Try.func5
    (ChangeSpec.witness6 (enc := enc) (C := Try.checked) false ⟨#[], #[.slice none 0 0], []⟩ 8 (by kernel_rfl) (by kernel_rfl) (by kernel_rfl) (by kernel_rfl)) ?_
  intro W base args ds gs before hval0 hW hcnd hwt0 _
  have hval : ∀ (j : Nat) t v, Try.f5.params[j]? = some t → args[j]? = some v → Value.okWide Try.prog W .any base t v := hval0
  have hW' := hW
  obtain ⟨p, q, hA0, hV, rfl, hfz, hnd⟩ := hW
  have hA : DataW.TrodAll enc Try.prog W 0 (fun _ => true) true Try.f5.params.toList args.toList ds p := hA0
  have hwt : (DataW.weightsEach Try.prog (Try.f5.params.toList ++ []) (ds ++ gs)).all (· ≤ reachBytes) = true := hwt0
  rw [Try.params5] at hA hval hwt
  obtain ⟨v0, vs0, d0, ds0, p0, q0, hargs, rfl, rfl, h0, r0⟩ := trodAll_cons hA
  obtain ⟨rfl, rfl, rfl⟩ := trodAll_nil r0
  obtain rfl : args = #[v0] := by cases args; simp_all
  obtain ⟨rfl, rfl⟩ := trodVars_none hV
  have k0 := h0
  have lt0 : ∀ x ∈ p0, x.block < W.heap.size := by obtain ⟨m, hm⟩ := k0; exact DataW.trod_lt m _ _ _ hm
  have wk0 : WOk Try.prog 38 d0 := wok_each hwt 0 rfl rfl
  obtain ⟨a0, b0⟩ := kd_slice kBss und_bytess (hval 0 38 v0 rfl rfl) h0 wk0
  clear hA0 hval0 hwt0
  refine (walk W v0 a0 b0).mono fun e W' ⟨he, bel⟩ => ?_
  subst he
  exact ⟨_, rfl, _, _, _, [], _, [], hW', trodAll_mk1 (shut_bool Try.underlying4 _), (trodAll_cons_mk (Below.trod laidP (by kernel_rfl) (of_decide_eq_true (by kernel_rfl)) k0 bel lt0) trodAll_mk0), rfl, bel.frame _, fun h => by cases h⟩
theorem over : Rows.shaPiecesRow.holds Try.pinned (OpenSpec.ofChange Rows.shaPiecesSpec) :=
  OpenClaim.holds_of_wide 5 Try.f5 rfl rfl rfl rfl rfl rfl rfl ⟨rfl, rfl, rfl, rfl, rfl⟩ rfl rfl rfl rfl rfl (by kernel_rfl) Try.func5 (by kernel_rfl)
    (of_decide_eq_true (by kernel_rfl)) (by unfold Func.isWrapper; first | (rw [if_pos (by decide +kernel)]; kernel_rfl) | (rw [if_neg (by decide +kernel)]; exact ⟨rfl, rfl⟩))
    (fun os started H enc _ => lifted os started H enc)
theorem proved : Rows.ShaPiecesSaid := over
#print axioms proved
end Go.Proofs.Ytdpcahfgdpikfaa.lawShaPieces
