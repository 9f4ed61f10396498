/- Several texts in one, as they stand in wip/src. -/
import Derived.Test.YtdpcahfgdpikfaaGt7
import Derived.Test.YtdpcahfgdpikfaaGt9
/- Walks: the reference's message with its end; its schedule. -/
namespace Go.Proofs.Ytdpcahfgdpikfaa
open Go Go.RowKit
set_option linter.unusedVariables false
set_option maxRecDepth 4000
theorem go_Sha6 {A B : Prop} (h : Held B → A := by
  intro hEnd
  repeat (first | refine OW_addW rfl rfl ?_ | refine OW_andW rfl rfl ?_ | refine OW_orW rfl rfl ?_ | refine OW_xorW rfl rfl ?_ | refine OW_notW rfl ?_ | refine OW_shrI rfl rfl (by omega) ?_ | refine OW_shlI rfl rfl (by omega) ?_ | refine OW_idxSI und_u32s one_u32 rfl rfl (by omega) (by omega) ?_ | (refine OW_isLoad ?_; refine OW_loadBk one_u32 rfl (by apply_assumption; assumption) _ (by assumption) ?_) | refine OW_moveV (.int _ _) rfl ?_ | refine OW_moveV (.slice _ _ _) rfl ?_ | refine OW_moveV (.bool _) rfl ?_ | refine OW_moveV (.pointer _) rfl ?_ | refine OW_moveV (.string _) rfl ?_ | refine OW_moveV (.agg _) rfl ?_ | refine OW_moveV (.tuple _) rfl ?_ | refine OW_nil ?_ | refine thenE_normal ?_ | refine CW_seq ?_ | refine CW_region (by kernel_rfl) ?_ | refine OW_assignV (.int _ _) rfl ?_ | refine OW_assignV (.slice _ _ _) rfl ?_ | refine OW_assignV (.bool _) rfl ?_ | refine OW_assignV (.pointer _) rfl ?_ | refine OW_assignV (.string _) rfl ?_ | refine OW_assignV (.agg _) rfl ?_ | refine OW_assignV (.tuple _) rfl ?_ | refine OW_addI rfl rfl (by omega) ?_ | refine OW_subI rfl rfl (by omega) ?_ | refine OW_mulI rfl rfl (by omega) ?_ | refine OW_lss rfl rfl ?_ | refine OW_extract rfl rfl ?_ | refine OW_gtr rfl rfl ?_ | refine OW_leq rfl rfl ?_ | refine OW_geq rfl rfl ?_ | refine OW_eql rfl rfl ?_ | refine OW_neq rfl rfl ?_ | refine OW_not rfl ?_ | refine OW_pickT rfl _ rfl ?_ | refine OW_pickF rfl (.bool _) rfl ?_ | refine OW_pickB rfl rfl rfl ?_ | refine OW_move ?_ | refine OW_assign ?_ | refine OW_pass rfl ?_ | refine OW_take rfl ?_ | refine OW_lenS (by first | with_reducible exact und_bytes | with_reducible exact und_bytess) rfl ?_ | refine OW_convInt (by first | with_reducible exact und_u8 | with_reducible exact und_u64 | with_reducible exact und_int | with_reducible exact und_u32) (by first | with_reducible exact und_u8 | with_reducible exact und_u64 | with_reducible exact und_int | with_reducible exact und_u32) rfl ?_ | refine OW_add rfl rfl ?_ | refine OW_sub rfl rfl ?_ | refine OW_mul rfl rfl ?_ | refine OW_min2 rfl rfl ?_ | refine OW_max2 rfl rfl ?_ | refine OW_neg rfl ?_ | refine CW_block ?_ | refine CW_condT rfl ?_ | refine CW_condF rfl ?_ | refine CW_exit ?_ | refine CW_ret ?_ | refine CW_skip ?_ | refine LW_seq ?_ | refine LW_regC ?_ | refine LW_condC ?_ | refine LW_regF ?_ | refine LW_condF ?_ | refine FW_seq ?_ | refine FW_region (by kernel_rfl) ?_ | refine FW_block ?_ | refine FW_condT rfl ?_ | refine FW_condF rfl ?_ | refine FW_exit ?_ | refine FW_ret ?_ | refine FW_skip ?_ | refine LW_ret ?_ | refine LW_skip ?_ | refine thenE_exit ?_ | refine thenE_ret ?_ | refine inBlockE_normal ?_ | refine inBlockE_same ?_ | refine inBlockE_ret ?_ | refine inBlockE_ne (by rfl) ?_ | refine OW_eqlB (by with_reducible exact und_bool) rfl rfl ?_ | refine OW_neqB (by with_reducible exact und_bool) rfl rfl ?_ | refine OW_idxS (by with_reducible exact und_bytes) one_u8 rfl rfl _ rfl (by omega) ?_ | refine OW_idxS (by with_reducible exact und_bytess) one_bytes rfl rfl _ rfl (by omega) ?_ | refine OW_load1 (by first | with_reducible exact one_u8 | with_reducible exact one_bytes) rfl _ (by assumption) ?_)
  exact hEnd.out) (k : B) : A := h ⟨k⟩
theorem oy_Sha6 {A B : Prop} (h : Held B → A := by
  intro hEnd
  repeat (first
    | refine OY_done ?_
    | (apply OY_p _ rfl
       · intro wd
         (first | refine OW_addW rfl rfl ?_ | refine OW_andW rfl rfl ?_ | refine OW_orW rfl rfl ?_ | refine OW_xorW rfl rfl ?_ | refine OW_notW rfl ?_ | refine OW_shrI rfl rfl (by omega) ?_ | refine OW_shlI rfl rfl (by omega) ?_ | refine OW_idxSI und_u32s one_u32 rfl rfl (by omega) (by omega) ?_ | (refine OW_isLoad ?_; refine OW_loadBk one_u32 rfl (by apply_assumption; assumption) _ (by assumption) ?_) | refine OW_moveV (.int _ _) rfl ?_ | refine OW_moveV (.slice _ _ _) rfl ?_ | refine OW_moveV (.bool _) rfl ?_ | refine OW_moveV (.pointer _) rfl ?_ | refine OW_moveV (.string _) rfl ?_ | refine OW_moveV (.agg _) rfl ?_ | refine OW_moveV (.tuple _) rfl ?_ | refine OW_nil ?_ | refine thenE_normal ?_ | refine CW_seq ?_ | refine CW_region (by kernel_rfl) ?_ | refine OW_assignV (.int _ _) rfl ?_ | refine OW_assignV (.slice _ _ _) rfl ?_ | refine OW_assignV (.bool _) rfl ?_ | refine OW_assignV (.pointer _) rfl ?_ | refine OW_assignV (.string _) rfl ?_ | refine OW_assignV (.agg _) rfl ?_ | refine OW_assignV (.tuple _) rfl ?_ | refine OW_addI rfl rfl (by omega) ?_ | refine OW_subI rfl rfl (by omega) ?_ | refine OW_mulI rfl rfl (by omega) ?_ | refine OW_lss rfl rfl ?_ | refine OW_extract rfl rfl ?_ | refine OW_gtr rfl rfl ?_ | refine OW_leq rfl rfl ?_ | refine OW_geq rfl rfl ?_ | refine OW_eql rfl rfl ?_ | refine OW_neq rfl rfl ?_ | refine OW_not rfl ?_ | refine OW_pickT rfl _ rfl ?_ | refine OW_pickF rfl (.bool _) rfl ?_ | refine OW_pickB rfl rfl rfl ?_ | refine OW_move ?_ | refine OW_assign ?_ | refine OW_pass rfl ?_ | refine OW_take rfl ?_ | refine OW_lenS (by first | with_reducible exact und_bytes | with_reducible exact und_bytess) rfl ?_ | refine OW_convInt (by first | with_reducible exact und_u8 | with_reducible exact und_u64 | with_reducible exact und_int | with_reducible exact und_u32) (by first | with_reducible exact und_u8 | with_reducible exact und_u64 | with_reducible exact und_int | with_reducible exact und_u32) rfl ?_ | refine OW_add rfl rfl ?_ | refine OW_sub rfl rfl ?_ | refine OW_mul rfl rfl ?_ | refine OW_min2 rfl rfl ?_ | refine OW_max2 rfl rfl ?_ | refine OW_neg rfl ?_ | refine CW_block ?_ | refine CW_condT rfl ?_ | refine CW_condF rfl ?_ | refine CW_exit ?_ | refine CW_ret ?_ | refine CW_skip ?_ | refine LW_seq ?_ | refine LW_regC ?_ | refine LW_condC ?_ | refine LW_regF ?_ | refine LW_condF ?_ | refine FW_seq ?_ | refine FW_region (by kernel_rfl) ?_ | refine FW_block ?_ | refine FW_condT rfl ?_ | refine FW_condF rfl ?_ | refine FW_exit ?_ | refine FW_ret ?_ | refine FW_skip ?_ | refine LW_ret ?_ | refine LW_skip ?_ | refine thenE_exit ?_ | refine thenE_ret ?_ | refine inBlockE_normal ?_ | refine inBlockE_same ?_ | refine inBlockE_ret ?_ | refine inBlockE_ne (by rfl) ?_ | refine OW_eqlB (by with_reducible exact und_bool) rfl rfl ?_ | refine OW_neqB (by with_reducible exact und_bool) rfl rfl ?_ | refine OW_idxS (by with_reducible exact und_bytes) one_u8 rfl rfl _ rfl (by omega) ?_ | refine OW_idxS (by with_reducible exact und_bytess) one_bytes rfl rfl _ rfl (by omega) ?_ | refine OW_load1 (by first | with_reducible exact one_u8 | with_reducible exact one_bytes) rfl _ (by assumption) ?_)
         refine OW_nil ?_
         exact stay_mk _ _ _ _)
    | (apply OY_q _ rfl
       · intro wd hwd
         (first | refine OW_addW rfl rfl ?_ | refine OW_andW rfl rfl ?_ | refine OW_orW rfl rfl ?_ | refine OW_xorW rfl rfl ?_ | refine OW_notW rfl ?_ | refine OW_shrI rfl rfl (by omega) ?_ | refine OW_shlI rfl rfl (by omega) ?_ | refine OW_idxSI und_u32s one_u32 rfl rfl (by omega) (by omega) ?_ | (refine OW_isLoad ?_; refine OW_loadBk one_u32 rfl (by apply_assumption; assumption) _ (by assumption) ?_) | refine OW_moveV (.int _ _) rfl ?_ | refine OW_moveV (.slice _ _ _) rfl ?_ | refine OW_moveV (.bool _) rfl ?_ | refine OW_moveV (.pointer _) rfl ?_ | refine OW_moveV (.string _) rfl ?_ | refine OW_moveV (.agg _) rfl ?_ | refine OW_moveV (.tuple _) rfl ?_ | refine OW_nil ?_ | refine thenE_normal ?_ | refine CW_seq ?_ | refine CW_region (by kernel_rfl) ?_ | refine OW_assignV (.int _ _) rfl ?_ | refine OW_assignV (.slice _ _ _) rfl ?_ | refine OW_assignV (.bool _) rfl ?_ | refine OW_assignV (.pointer _) rfl ?_ | refine OW_assignV (.string _) rfl ?_ | refine OW_assignV (.agg _) rfl ?_ | refine OW_assignV (.tuple _) rfl ?_ | refine OW_addI rfl rfl (by omega) ?_ | refine OW_subI rfl rfl (by omega) ?_ | refine OW_mulI rfl rfl (by omega) ?_ | refine OW_lss rfl rfl ?_ | refine OW_extract rfl rfl ?_ | refine OW_gtr rfl rfl ?_ | refine OW_leq rfl rfl ?_ | refine OW_geq rfl rfl ?_ | refine OW_eql rfl rfl ?_ | refine OW_neq rfl rfl ?_ | refine OW_not rfl ?_ | refine OW_pickT rfl _ rfl ?_ | refine OW_pickF rfl (.bool _) rfl ?_ | refine OW_pickB rfl rfl rfl ?_ | refine OW_move ?_ | refine OW_assign ?_ | refine OW_pass rfl ?_ | refine OW_take rfl ?_ | refine OW_lenS (by first | with_reducible exact und_bytes | with_reducible exact und_bytess) rfl ?_ | refine OW_convInt (by first | with_reducible exact und_u8 | with_reducible exact und_u64 | with_reducible exact und_int | with_reducible exact und_u32) (by first | with_reducible exact und_u8 | with_reducible exact und_u64 | with_reducible exact und_int | with_reducible exact und_u32) rfl ?_ | refine OW_add rfl rfl ?_ | refine OW_sub rfl rfl ?_ | refine OW_mul rfl rfl ?_ | refine OW_min2 rfl rfl ?_ | refine OW_max2 rfl rfl ?_ | refine OW_neg rfl ?_ | refine CW_block ?_ | refine CW_condT rfl ?_ | refine CW_condF rfl ?_ | refine CW_exit ?_ | refine CW_ret ?_ | refine CW_skip ?_ | refine LW_seq ?_ | refine LW_regC ?_ | refine LW_condC ?_ | refine LW_regF ?_ | refine LW_condF ?_ | refine FW_seq ?_ | refine FW_region (by kernel_rfl) ?_ | refine FW_block ?_ | refine FW_condT rfl ?_ | refine FW_condF rfl ?_ | refine FW_exit ?_ | refine FW_ret ?_ | refine FW_skip ?_ | refine LW_ret ?_ | refine LW_skip ?_ | refine thenE_exit ?_ | refine thenE_ret ?_ | refine inBlockE_normal ?_ | refine inBlockE_same ?_ | refine inBlockE_ret ?_ | refine inBlockE_ne (by rfl) ?_ | refine OW_eqlB (by with_reducible exact und_bool) rfl rfl ?_ | refine OW_neqB (by with_reducible exact und_bool) rfl rfl ?_ | refine OW_idxS (by with_reducible exact und_bytes) one_u8 rfl rfl _ rfl (by omega) ?_ | refine OW_idxS (by with_reducible exact und_bytess) one_bytes rfl rfl _ rfl (by omega) ?_ | refine OW_load1 (by first | with_reducible exact one_u8 | with_reducible exact one_bytes) rfl _ (by assumption) ?_ | (refine OW_isLoad ?_; refine OW_loadBk (by first | with_reducible exact one_u8 | with_reducible exact one_bytes | with_reducible exact one_bool | with_reducible exact one_int | with_reducible exact one_errno | with_reducible exact one_u32 | with_reducible exact one_u64 | with_reducible exact one_string) rfl (by apply_assumption; assumption) _ (by first | assumption | rfl) ?_) | refine OW_load1 (by first | with_reducible exact one_u8 | with_reducible exact one_bytes | with_reducible exact one_bool | with_reducible exact one_int | with_reducible exact one_errno | with_reducible exact one_u32 | with_reducible exact one_u64 | with_reducible exact one_string) rfl _ (by apply_assumption; assumption) ?_)
         refine OW_nil ?_
         exact stay_mk _ _ _ _)
    | refine OY_ppass rfl rfl ?_
    | refine OY_qpass rfl rfl ?_
    | (apply OY_ptake _ rfl rfl
       · intro wd
         (first | refine OW_addW rfl rfl ?_ | refine OW_andW rfl rfl ?_ | refine OW_orW rfl rfl ?_ | refine OW_xorW rfl rfl ?_ | refine OW_notW rfl ?_ | refine OW_shrI rfl rfl (by omega) ?_ | refine OW_shlI rfl rfl (by omega) ?_ | refine OW_idxSI und_u32s one_u32 rfl rfl (by omega) (by omega) ?_ | (refine OW_isLoad ?_; refine OW_loadBk one_u32 rfl (by apply_assumption; assumption) _ (by assumption) ?_) | refine OW_moveV (.int _ _) rfl ?_ | refine OW_moveV (.slice _ _ _) rfl ?_ | refine OW_moveV (.bool _) rfl ?_ | refine OW_moveV (.pointer _) rfl ?_ | refine OW_moveV (.string _) rfl ?_ | refine OW_moveV (.agg _) rfl ?_ | refine OW_moveV (.tuple _) rfl ?_ | refine OW_nil ?_ | refine thenE_normal ?_ | refine CW_seq ?_ | refine CW_region (by kernel_rfl) ?_ | refine OW_assignV (.int _ _) rfl ?_ | refine OW_assignV (.slice _ _ _) rfl ?_ | refine OW_assignV (.bool _) rfl ?_ | refine OW_assignV (.pointer _) rfl ?_ | refine OW_assignV (.string _) rfl ?_ | refine OW_assignV (.agg _) rfl ?_ | refine OW_assignV (.tuple _) rfl ?_ | refine OW_addI rfl rfl (by omega) ?_ | refine OW_subI rfl rfl (by omega) ?_ | refine OW_mulI rfl rfl (by omega) ?_ | refine OW_lss rfl rfl ?_ | refine OW_extract rfl rfl ?_ | refine OW_gtr rfl rfl ?_ | refine OW_leq rfl rfl ?_ | refine OW_geq rfl rfl ?_ | refine OW_eql rfl rfl ?_ | refine OW_neq rfl rfl ?_ | refine OW_not rfl ?_ | refine OW_pickT rfl _ rfl ?_ | refine OW_pickF rfl (.bool _) rfl ?_ | refine OW_pickB rfl rfl rfl ?_ | refine OW_move ?_ | refine OW_assign ?_ | refine OW_pass rfl ?_ | refine OW_take rfl ?_ | refine OW_lenS (by first | with_reducible exact und_bytes | with_reducible exact und_bytess) rfl ?_ | refine OW_convInt (by first | with_reducible exact und_u8 | with_reducible exact und_u64 | with_reducible exact und_int | with_reducible exact und_u32) (by first | with_reducible exact und_u8 | with_reducible exact und_u64 | with_reducible exact und_int | with_reducible exact und_u32) rfl ?_ | refine OW_add rfl rfl ?_ | refine OW_sub rfl rfl ?_ | refine OW_mul rfl rfl ?_ | refine OW_min2 rfl rfl ?_ | refine OW_max2 rfl rfl ?_ | refine OW_neg rfl ?_ | refine CW_block ?_ | refine CW_condT rfl ?_ | refine CW_condF rfl ?_ | refine CW_exit ?_ | refine CW_ret ?_ | refine CW_skip ?_ | refine LW_seq ?_ | refine LW_regC ?_ | refine LW_condC ?_ | refine LW_regF ?_ | refine LW_condF ?_ | refine FW_seq ?_ | refine FW_region (by kernel_rfl) ?_ | refine FW_block ?_ | refine FW_condT rfl ?_ | refine FW_condF rfl ?_ | refine FW_exit ?_ | refine FW_ret ?_ | refine FW_skip ?_ | refine LW_ret ?_ | refine LW_skip ?_ | refine thenE_exit ?_ | refine thenE_ret ?_ | refine inBlockE_normal ?_ | refine inBlockE_same ?_ | refine inBlockE_ret ?_ | refine inBlockE_ne (by rfl) ?_ | refine OW_eqlB (by with_reducible exact und_bool) rfl rfl ?_ | refine OW_neqB (by with_reducible exact und_bool) rfl rfl ?_ | refine OW_idxS (by with_reducible exact und_bytes) one_u8 rfl rfl _ rfl (by omega) ?_ | refine OW_idxS (by with_reducible exact und_bytess) one_bytes rfl rfl _ rfl (by omega) ?_ | refine OW_load1 (by first | with_reducible exact one_u8 | with_reducible exact one_bytes) rfl _ (by assumption) ?_)
         refine OW_nil ?_
         exact stay_mk _ _ _ _)
    | (apply OY_qtake _ rfl rfl
       · intro wd hwd
         (first | refine OW_addW rfl rfl ?_ | refine OW_andW rfl rfl ?_ | refine OW_orW rfl rfl ?_ | refine OW_xorW rfl rfl ?_ | refine OW_notW rfl ?_ | refine OW_shrI rfl rfl (by omega) ?_ | refine OW_shlI rfl rfl (by omega) ?_ | refine OW_idxSI und_u32s one_u32 rfl rfl (by omega) (by omega) ?_ | (refine OW_isLoad ?_; refine OW_loadBk one_u32 rfl (by apply_assumption; assumption) _ (by assumption) ?_) | refine OW_moveV (.int _ _) rfl ?_ | refine OW_moveV (.slice _ _ _) rfl ?_ | refine OW_moveV (.bool _) rfl ?_ | refine OW_moveV (.pointer _) rfl ?_ | refine OW_moveV (.string _) rfl ?_ | refine OW_moveV (.agg _) rfl ?_ | refine OW_moveV (.tuple _) rfl ?_ | refine OW_nil ?_ | refine thenE_normal ?_ | refine CW_seq ?_ | refine CW_region (by kernel_rfl) ?_ | refine OW_assignV (.int _ _) rfl ?_ | refine OW_assignV (.slice _ _ _) rfl ?_ | refine OW_assignV (.bool _) rfl ?_ | refine OW_assignV (.pointer _) rfl ?_ | refine OW_assignV (.string _) rfl ?_ | refine OW_assignV (.agg _) rfl ?_ | refine OW_assignV (.tuple _) rfl ?_ | refine OW_addI rfl rfl (by omega) ?_ | refine OW_subI rfl rfl (by omega) ?_ | refine OW_mulI rfl rfl (by omega) ?_ | refine OW_lss rfl rfl ?_ | refine OW_extract rfl rfl ?_ | refine OW_gtr rfl rfl ?_ | refine OW_leq rfl rfl ?_ | refine OW_geq rfl rfl ?_ | refine OW_eql rfl rfl ?_ | refine OW_neq rfl rfl ?_ | refine OW_not rfl ?_ | refine OW_pickT rfl _ rfl ?_ | refine OW_pickF rfl (.bool _) rfl ?_ | refine OW_pickB rfl rfl rfl ?_ | refine OW_move ?_ | refine OW_assign ?_ | refine OW_pass rfl ?_ | refine OW_take rfl ?_ | refine OW_lenS (by first | with_reducible exact und_bytes | with_reducible exact und_bytess) rfl ?_ | refine OW_convInt (by first | with_reducible exact und_u8 | with_reducible exact und_u64 | with_reducible exact und_int | with_reducible exact und_u32) (by first | with_reducible exact und_u8 | with_reducible exact und_u64 | with_reducible exact und_int | with_reducible exact und_u32) rfl ?_ | refine OW_add rfl rfl ?_ | refine OW_sub rfl rfl ?_ | refine OW_mul rfl rfl ?_ | refine OW_min2 rfl rfl ?_ | refine OW_max2 rfl rfl ?_ | refine OW_neg rfl ?_ | refine CW_block ?_ | refine CW_condT rfl ?_ | refine CW_condF rfl ?_ | refine CW_exit ?_ | refine CW_ret ?_ | refine CW_skip ?_ | refine LW_seq ?_ | refine LW_regC ?_ | refine LW_condC ?_ | refine LW_regF ?_ | refine LW_condF ?_ | refine FW_seq ?_ | refine FW_region (by kernel_rfl) ?_ | refine FW_block ?_ | refine FW_condT rfl ?_ | refine FW_condF rfl ?_ | refine FW_exit ?_ | refine FW_ret ?_ | refine FW_skip ?_ | refine LW_ret ?_ | refine LW_skip ?_ | refine thenE_exit ?_ | refine thenE_ret ?_ | refine inBlockE_normal ?_ | refine inBlockE_same ?_ | refine inBlockE_ret ?_ | refine inBlockE_ne (by rfl) ?_ | refine OW_eqlB (by with_reducible exact und_bool) rfl rfl ?_ | refine OW_neqB (by with_reducible exact und_bool) rfl rfl ?_ | refine OW_idxS (by with_reducible exact und_bytes) one_u8 rfl rfl _ rfl (by omega) ?_ | refine OW_idxS (by with_reducible exact und_bytess) one_bytes rfl rfl _ rfl (by omega) ?_ | refine OW_load1 (by first | with_reducible exact one_u8 | with_reducible exact one_bytes) rfl _ (by assumption) ?_ | (refine OW_isLoad ?_; refine OW_loadBk (by first | with_reducible exact one_u8 | with_reducible exact one_bytes | with_reducible exact one_bool | with_reducible exact one_int | with_reducible exact one_errno | with_reducible exact one_u32 | with_reducible exact one_u64 | with_reducible exact one_string) rfl (by apply_assumption; assumption) _ (by first | assumption | rfl) ?_) | refine OW_load1 (by first | with_reducible exact one_u8 | with_reducible exact one_bytes | with_reducible exact one_bool | with_reducible exact one_int | with_reducible exact one_errno | with_reducible exact one_u32 | with_reducible exact one_u64 | with_reducible exact one_string) rfl _ (by apply_assumption; assumption) ?_)
         refine OW_nil ?_
         exact stay_mk _ _ _ _)
    | refine OY_a (actY_of rfl ?_)
    | refine OY_d (actY_of rfl ?_)
    | refine OY_a (actY_pass rfl rfl ?_)
    | refine OY_d (actY_pass rfl rfl ?_)
    | refine OY_a (actY_take rfl rfl ?_)
    | refine OY_d (actY_take rfl rfl ?_))
  exact hEnd.out) (k : B) : A := h ⟨k⟩
section
variable {P : Program} {ops : Array Oper} {Q : Exit → (Nat → Value) → World → Prop} {rest : List Oper} {e : Nat → Value} {w : World} {d : Tmp} {ty : TypeId} {pos : String} {aft : Array Edge}
theorem OW_shrI {x y : Operand} {t t' : TypeId} {a : UInt32} {ky : IntKind} {b : Int} (hx : ev e x = uv a) (hy : ev e y = .int ky b) (hk : 0 ≤ b ∧ b ≤ 32) (h : OW P ops Q rest (upd e d (uv (shU a b.toNat))) w) : OW P ops Q (⟨some d, .binOp .shr t x y t', ty, pos, aft, none⟩ :: rest) e w :=
  OW_shrW b.toNat hx hy (by omega) (by omega) h
theorem OW_shlI {x y : Operand} {t t' : TypeId} {a : UInt32} {ky : IntKind} {b : Int} (hx : ev e x = uv a) (hy : ev e y = .int ky b) (hk : 0 ≤ b ∧ b ≤ 32) (h : OW P ops Q rest (upd e d (uv (slU a b.toNat))) w) : OW P ops Q (⟨some d, .binOp .shl t x y t', ty, pos, aft, none⟩ :: rest) e w :=
  OW_shlW b.toNat hx hy (by omega) (by omega) h
theorem OW_idxSI {x y : Operand} {t el : TypeId} {g n c : Nat} {k : IntKind} {j : Int} (ht : P.underlying t = some (.slice el)) (hel : OneT P el) (hx : ev e x = .slice (some ⟨g, 0, none⟩) n c) (hy : ev e y = .int k j) (hj : 0 ≤ j) (hn : j < n)
    (h : OW P ops Q rest (upd e d (.pointer (some ⟨g, j.toNat, none⟩))) w) : OW P ops Q (⟨some d, .indexAddr t x y, ty, pos, aft, none⟩ :: rest) e w :=
  OW_idxSB ht hel hx hy j.toNat (by omega) (by omega) h
end
set_option maxHeartbeats 8000000 in
theorem refWhole_any (w : World) (A : Option Addr) (c : Nat) (b : List UInt8) (hb : Bs w A b) (hl : b.length ≤ 100000) :
    Calls Try.prog 70 #[.slice A b.length c] w (RetBs 5 w (b ++ tailB b.length)) := by
  refine calls_of_CW Try.func70 rfl (by simp [Try.ntmps70]) ?_
  rw [Try.ntmps70]
  refine go_Sha6 (k := ?_)
  refine OW_callBs Try.func26 (by kernel_rfl) rfl (refCopy_any w A b c hb (by omega)) rfl ?_
  intro w1 A1 c1 hf1
  refine go_Sha6 (k := ?_)
  refine OW_lit [bv 128] und_bytes info_u8 rfl rfl (by simp [bv, Value.oneCell']) (by decide) ?_
  intro w2 g2 hb2 hg2 hx2
  refine go_Sha6 (k := ?_)
  refine OW_append und_bytes info_u8 rfl rfl rfl (own_ext hf1.own hx2) hb2.rd rfl (by simp [bv, Value.oneCell']) (by unfold maxLen; omega) (by omega) (by have := hf1.ext.size; have := hx2.size; omega) ?_
  intro w3 A3 c3 ho3 hx3
  have hx03 : Ext w w3 := (hf1.ext.trans' hx2).trans hx3
  obtain ⟨nz, hnz⟩ : ∃ nz, (119 - b.length % 64) % 64 = nz := ⟨_, rfl⟩
  refine go_Sha6 (k := ?_)
  refine CW_meetB (fun e' w' => ∃ A2 c2, e' 0 = .slice A b.length c ∧ e' 3 = .slice A2 (b.length + 1 + nz) c2 ∧ w'.ownsRow w.heap.size 5 1 (.slice A2 (b.length + 1 + nz) c2) (b.length + 1 + nz) ((b ++ [128] ++ List.replicate nz 0).map bv) ∧ Ext w w') ?_ ?_
  · refine CW_loop (fun e' w' => ∃ (k : Nat) (A2 : Option Addr) (c2 : Nat), k ≤ nz ∧ e' 0 = .slice A b.length c ∧ e' 3 = .slice A2 (b.length + 1 + k) c2 ∧ w'.ownsRow w.heap.size 5 1 (.slice A2 (b.length + 1 + k) c2) (b.length + 1 + k) ((b ++ [128] ++ List.replicate k 0).map bv) ∧ Ext w w') (fun e' _ => b.length + 1 + nz - (match e' 3 with | .slice _ n _ => n | _ => 0)) ?_ ?_
    · exact ⟨0, A3, c3, Nat.zero_le _, rfl, rfl, by simpa using ho3, hx03⟩
    rintro e' w' ⟨k, A2, c2, hk, e0, e3, ho, hx⟩
    rw [upd_self e0, upd_self e3]
    refine go_Sha6 (k := ?_)
    refine OW_rem rfl rfl (by decide) ?_
    rw [show (((b.length + 1 + k : Nat) : Int)).tmod 64 = (((b.length + 1 + k) % 64 : Nat) : Int) from rfl]
    refine go_Sha6 (k := ?_)
    refine CW_cond _ rfl (fun h => ?_) (fun h => ?_)
    · have hlt : k < nz := by simp at h; omega
      refine go_Sha6 (k := ?_)
      refine OW_lit [bv 0] und_bytes info_u8 rfl rfl (by simp [bv, Value.oneCell']) (by decide) ?_
      intro w4 g4 hb4 hg4 hx4
      refine go_Sha6 (k := ?_)
      refine OW_append und_bytes info_u8 rfl rfl rfl (own_ext ho hx4) hb4.rd rfl (by simp [bv, Value.oneCell']) (by unfold maxLen; omega) (by omega) (by have := hx.size; have := hx4.size; omega) ?_
      intro w5 A5 c5 ho5 hx5
      refine go_Sha6 (k := ?_)
      refine ⟨⟨k + 1, A5, c5, hlt, rfl, rfl, ?_, (hx.trans' hx4).trans hx5⟩, ?_⟩
      · have he : b ++ [128] ++ List.replicate (k + 1) (0 : UInt8) = (b ++ [128] ++ List.replicate k 0) ++ [0] := by rw [List.replicate_succ']; simp
        rw [he, List.map_append]
        exact ho5
      · show b.length + 1 + nz - (b.length + 1 + (k + 1)) < b.length + 1 + nz - (b.length + 1 + k)
        omega
    · have hge : k = nz := by simp at h; omega
      subst hge
      refine go_Sha6 (k := ?_)
      exact ⟨rfl, A2, c2, rfl, rfl, ho, hx⟩
  rintro e' w' ⟨A2, c2, e0, e3, ho, hx⟩
  rw [upd_self e0, upd_self e3]
  have hu : IntKind.u64.wrap ((b.length : Nat) : Int) = (b.length : Int) := wrap_u64_lt _ (by omega)
  have hm : IntKind.u64.wrap (8 * (b.length : Int)) = ((8 * b.length % 18446744073709551616 : Nat) : Int) := by
    rw [show (8 * (b.length : Int)) = ((8 * b.length : Nat) : Int) by omega, wrap_u64]
  refine go_Sha6 (k := ?_)
  rw [hu, hm]
  refine OW_callBs Try.func73 (by kernel_rfl) rfl (refPut_any _ (8 * b.length % 18446744073709551616) 8 8 rfl (by decide) (by omega)) rfl ?_
  intro w6 A6 c6 hf6
  refine go_Sha6 (k := ?_)
  have hbs : Bs w' A2 (b ++ [128] ++ List.replicate nz 0) := own_rd ho
  have hn : b.length + 1 + nz = (b ++ [128] ++ List.replicate nz (0 : UInt8)).length := by simp; omega
  rw [hn]
  refine OW_callBs Try.func74 (by kernel_rfl) rfl (refCat_any w6 A2 A6 (b ++ [128] ++ List.replicate nz 0) (putL (8 * b.length % 18446744073709551616) 8) c2 c6 (hbs.ext hf6.ext) hf6.bs (by simp [putL_length]; omega)) rfl ?_
  intro w7 A7 c7 hf7
  have htl : b ++ [128] ++ List.replicate nz (0 : UInt8) ++ putL (8 * b.length % 18446744073709551616) 8 = b ++ tailB b.length := by unfold tailB; rw [hnz]; simp
  rw [htl] at hf7 ⊢
  refine go_Sha6 (k := ?_)
  exact bodyE_ret1 rfl (.slice A7 _ c7) rfl ⟨A7, c7, rfl, hf7.back (hx.trans' hf6.ext)⟩
set_option maxHeartbeats 8000000 in
theorem refSchedule_any (w : World) (A : Option Addr) (c : Nat) (b : List UInt8) (hb : Bs w A b) (hl : b.length = 64) :
    Calls Try.prog 71 #[.slice A b.length c] w (fun en w' => ∃ g cc cur, en = .returned (.slice (some ⟨g, 0, none⟩) 64 cc) ∧ Blk w' g 92 cur ∧ cur.toList.take 64 = (sch b 64).map uv ∧ w.heap.size ≤ g ∧ Ext w w') := by
  refine calls_of_CW Try.func71 rfl (by simp [Try.ntmps71]) ?_
  rw [Try.ntmps71]
  refine go_Sha6 (k := ?_)
  refine CW_meetB (fun e' w' => ∃ A2 c2, e' 3 = .slice A2 16 c2 ∧ w'.ownsRow w.heap.size 92 1 (.slice A2 16 c2) 16 ((sch b 16).map uv) ∧ Ext w w') ?_ ?_
  · refine CW_loop (fun e' w' => ∃ (k : Nat) (A2 : Option Addr) (c2 : Nat), k ≤ 16 ∧ e' 0 = .slice A b.length c ∧ e' 4 = .int .i64 k ∧ e' 3 = .slice A2 k c2 ∧ w'.ownsRow w.heap.size 92 1 (.slice A2 k c2) k ((sch b k).map uv) ∧ Ext w w') (fun e' _ => 16 - (intOf (e' 4)).toNat) ?_ ?_
    · exact ⟨0, none, 0, Nat.zero_le _, rfl, rfl, rfl, World.ownsRow_nil _ _ _ _, Ext.rfl' w⟩
    rintro e' w' ⟨k, A2, c2, hk, e0, e4, e3, ho, hx⟩
    rw [upd_self e0, upd_self e4, upd_self e3]
    refine go_Sha6 (k := ?_)
    refine CW_cond _ rfl (fun h => ?_) (fun h => ?_)
    · have hlt : k < 16 := by simp at h; omega
      clear h
      refine go_Sha6 (k := ?_)
      refine OW_callV Try.func102 (by kernel_rfl) rfl (refLoad_any w' A b c (4 * (k : Int)) 4 4 rfl (by decide) (hb.ext hx) (by omega) (by omega)) rfl ?_
      intro w3 hx3
      have hn : UInt32.ofNat (ldV b ((4 * k : Nat) : Int) 4) = nxt b (sch b k) k := by unfold nxt; rw [if_pos hlt]
      have hv : (.int .u32 (IntKind.u32.wrap ((ldV b (4 * (k : Int)) 4 : Nat) : Int)) : Value) = uv (nxt b (sch b k) k) := by
        rw [wrap_u32_lt _ (by have := ldV_lt b (4 * (k : Int)) 4; simpa using this), ldV_uv, hn]
      refine go_Sha6 (k := ?_)
      rw [hv]
      refine OW_lit [uv (nxt b (sch b k) k)] und_u32s info_u32 rfl rfl (by simp [Value.oneCell']) (by decide) ?_
      intro w4 g4 hb4 hg4 hx4
      refine go_Sha6 (k := ?_)
      have hx34 := hx3.trans' hx4
      refine OW_append und_u32s info_u32 rfl rfl rfl (own_ext ho hx34) hb4.rd rfl (by simp [Value.oneCell']) (by unfold maxLen; omega) (by omega) (by have := hx.size; have := hx34.size; omega) ?_
      intro w5 A5 c5 ho5 hx5
      refine go_Sha6 (k := ?_)
      refine ⟨⟨k + 1, A5, c5, hlt, rfl, rfl, rfl, ?_, (hx.trans' hx34).trans hx5⟩, ?_⟩
      · rw [sch, List.map_append]
        exact ho5
      · show 16 - ((k : Int) + 1).toNat < 16 - (k : Int).toNat
        omega
    · have hge : k = 16 := by simp at h; omega
      subst hge
      refine go_Sha6 (k := ?_)
      exact ⟨rfl, A2, c2, rfl, ho, hx⟩
  rintro e' w' ⟨A2, c2, e3, ho, hx⟩
  rw [upd_self e3]
  clear e3
  refine go_Sha6 (k := ?_)
  refine CW_meetB (fun e' w' => ∃ A2 c2, e' 3 = .slice A2 64 c2 ∧ w'.ownsRow w.heap.size 92 1 (.slice A2 64 c2) 64 ((sch b 64).map uv) ∧ Ext w w') ?_ ?_
  · refine CW_loop (fun e' w' => ∃ (k : Nat) (A2 : Option Addr) (c2 : Nat), 16 ≤ k ∧ k ≤ 64 ∧ e' 7 = .int .i64 k ∧ e' 3 = .slice A2 k c2 ∧ w'.ownsRow w.heap.size 92 1 (.slice A2 k c2) k ((sch b k).map uv) ∧ Ext w w') (fun e' _ => 64 - (intOf (e' 7)).toNat) ?_ ?_
    · exact ⟨16, A2, c2, Nat.le_refl _, by omega, rfl, rfl, ho, hx⟩
    clear ho hx
    rintro e' w' ⟨k, A2, c2, hk16, hk, e7, e3, ho, hx⟩
    rw [upd_self e7, upd_self e3]
    refine go_Sha6 (k := ?_)
    refine CW_cond _ rfl (fun h => ?_) (fun h => ?_)
    · have hlt : k < 64 := by simp at h; omega
      clear h
      obtain ⟨g, cur, rfl, hg, hbk, hcs, hkc, hcm, hcur⟩ := own_blk ho (by omega)
      have hget : ∀ j, j < k → cur[j]? = some (uv ((sch b k).getD j 0)) := fun j hj => by
        have hl := sch_length b k
        have h1 : cur.toList[j]? = some (uv ((sch b k).getD j 0)) := by
          rw [← List.getElem?_take_of_lt hj, hcur, List.getElem?_map, List.getD_eq_getElem?_getD, List.getElem?_eq_getElem (by omega)]
          rfl
        simpa using h1
      have hn : nxt b (sch b k) k = smallU ((sch b k).getD (k - 2) 0) 17 19 10 + (sch b k).getD (k - 7) 0 + smallU ((sch b k).getD (k - 15) 0) 7 18 3 + (sch b k).getD (k - 16) 0 := by unfold nxt; rw [if_neg (by omega)]
      obtain ⟨x2, hx2⟩ : ∃ x, (sch b k).getD (k - 2) 0 = x := ⟨_, rfl⟩
      obtain ⟨x7, hx7⟩ : ∃ x, (sch b k).getD (k - 7) 0 = x := ⟨_, rfl⟩
      obtain ⟨x15, hx15⟩ : ∃ x, (sch b k).getD (k - 15) 0 = x := ⟨_, rfl⟩
      obtain ⟨x16, hx16⟩ : ∃ x, (sch b k).getD (k - 16) 0 = x := ⟨_, rfl⟩
      have d2 : cur[((k : Int) - 2).toNat]? = some (uv x2) := by rw [show ((k : Int) - 2).toNat = k - 2 by omega, hget _ (by omega), hx2]
      have d7 : cur[((k : Int) - 7).toNat]? = some (uv x7) := by rw [show ((k : Int) - 7).toNat = k - 7 by omega, hget _ (by omega), hx7]
      have d15 : cur[((k : Int) - 15).toNat]? = some (uv x15) := by rw [show ((k : Int) - 15).toNat = k - 15 by omega, hget _ (by omega), hx15]
      have d16 : cur[((k : Int) - 16).toNat]? = some (uv x16) := by rw [show ((k : Int) - 16).toNat = k - 16 by omega, hget _ (by omega), hx16]
      rw [hx2, hx7, hx15, hx16] at hn
      clear hx2 hx7 hx15 hx16 hget hcur
      have hid : Held (nxt b (sch b k) k = smallU x2 17 19 10 + x7 + smallU x15 7 18 3 + x16 ∧ w'.ownsRow w.heap.size 92 1 (.slice (some ⟨g, 0, none⟩) k c2) k ((sch b k).map uv)) := ⟨hn, ho⟩
      clear hn ho
      refine go_Sha6 (k := ?_)
      obtain ⟨C, hC⟩ : ∃ C : World → Prop, C = fun v => Blk v g 92 cur ∧ Ext w' v := ⟨_, rfl⟩
      have y2 : ∀ v, C v → Blk v g 92 cur := fun v hv => by rw [hC] at hv; exact hv.1
      have yC : ∀ v, Ext w' v → C v := fun v hv => by rw [hC]; exact ⟨hbk.ext hv, hv⟩
      refine CW_tree2 [4, 9] (.p 0 (.p 1 (.p 2 (.p 3 (.q 4 (.p 5 (.p 6 (.p 7 (.p 8 (.q 9 (.p 10 (.p 11 .done)))))))))))) (C) (by kernel_rfl) (by kernel_rfl) (by kernel_rfl) ?_ ?_
      · exact yC
      intro w4 hx4 hC4
      refine oy_Sha6 (k := ?_)
      refine go_Sha6 (k := ?_)
      have r1 := rot_shifts x2 (k := 17) (by decide) (by decide)
      have r2 := rot_shifts x2 (k := 19) (by decide) (by decide)
      have r3 := rot_shifts x15 (k := 7) (by decide) (by decide)
      have r4 := rot_shifts x15 (k := 18) (by decide) (by decide)
      have r1 : shU x2 (17 : Int).toNat ||| slU x2 (15 : Int).toNat = rotU x2 17 := r1
      have r2 : shU x2 (19 : Int).toNat ||| slU x2 (13 : Int).toNat = rotU x2 19 := r2
      have r3 : shU x15 (7 : Int).toNat ||| slU x15 (25 : Int).toNat = rotU x15 7 := r3
      have r4 : shU x15 (18 : Int).toNat ||| slU x15 (14 : Int).toNat = rotU x15 18 := r4
      rw [r1, r2, r3, r4]
      have s1 : rotU x2 17 ^^^ rotU x2 19 ^^^ shU x2 (10 : Int).toNat = smallU x2 17 19 10 := rfl
      have s2 : rotU x15 7 ^^^ rotU x15 18 ^^^ shU x15 (3 : Int).toNat = smallU x15 7 18 3 := rfl
      rw [s1, s2]
      refine CW_tree2 [6, 14] (.p 0 (.p 1 (.p 2 (.p 3 (.p 4 (.p 5 (.q 6 (.p 7 (.p 8 (.p 9 (.p 10 (.p 11 (.p 12 (.p 13 (.q 14 (.p 15 (.d 16 (.d 17 (.p 18 .done))))))))))))))))))) (C) (by kernel_rfl) (by kernel_rfl) (by kernel_rfl) ?_ ?_
      · rw [hC] at hC4
        exact fun v hv => yC _ (hC4.2.trans' hv)
      intro w5 hx5 hC5
      refine oy_Sha6 (k := ?_)
      obtain ⟨hn, ho⟩ := hid.out
      rw [← hn]
      refine OW_lit [uv (nxt b (sch b k) k)] und_u32s info_u32 rfl rfl (by simp [Value.oneCell']) (by decide) ?_
      intro w6 g6 hb6 hg6 hx6
      rw [hC] at hC5
      have hxw6 : Ext w' w6 := hC5.2.trans' hx6
      refine OW_nil (goY_drop (fun _ => True) trivial ?_)
      refine oy_Sha6 (k := ?_)
      refine OW_append und_u32s info_u32 rfl rfl rfl (own_ext ho hxw6) hb6.rd rfl (by simp [Value.oneCell']) (by unfold maxLen; omega) (by omega) (by have := hx.size; have := hxw6.size; omega) ?_
      intro w7 A7 c7 ho7 hx7
      refine OW_nil (goY_drop (fun _ => True) trivial ?_)
      refine oy_Sha6 (k := ?_)
      refine go_Sha6 (k := ?_)
      refine ⟨⟨k + 1, A7, c7, by omega, hlt, rfl, rfl, ?_, (hx.trans' hxw6).trans hx7⟩, ?_⟩
      · rw [sch, List.map_append]
        exact ho7
      · show 64 - ((k : Int) + 1).toNat < 64 - (k : Int).toNat
        omega
    · have hge : k = 64 := by simp at h; omega
      subst hge
      refine go_Sha6 (k := ?_)
      exact ⟨rfl, A2, c2, rfl, ho, hx⟩
  clear ho hx
  rintro e' w' ⟨A2, c2, e3, ho, hx⟩
  rw [upd_self e3]
  refine go_Sha6 (k := ?_)
  obtain ⟨g, cur, rfl, hg, hbk, hcs, hkc, hcm, hcur⟩ := own_blk ho (by omega)
  exact bodyE_ret1 rfl _ rfl ⟨g, c2, cur, rfl, hbk, hcur, hg, hx⟩
end Go.Proofs.Ytdpcahfgdpikfaa
