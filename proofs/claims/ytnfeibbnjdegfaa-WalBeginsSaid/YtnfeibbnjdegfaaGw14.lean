/- Several texts in one, as they stand in wip/src. -/
import Derived.Test.YtnfeibbnjdegfaaGw13
/- Walks: a disk that was made: none, New, Up, Synced, Writes, Bytes, upright, settle, Write, Sync, Cut, Start. -/
namespace Go.Proofs.Ytnfeibbnjdegfaa
open Go Go.RowKit
set_option linter.unusedVariables false
set_option maxRecDepth 4000
theorem go_Dsk1 {A B : Prop} (h : Held B → A := by
  intro hEnd
  repeat (first | refine OW_nilCheck rfl ?_ | refine OW_fieldB fldo_D0 rfl ?_ | refine OW_fieldB fldo_D1 rfl ?_ | refine OW_fieldB fldo_D2 rfl ?_ | refine OW_fieldB fldo_D3 rfl ?_ | refine OW_eqlNil und_pD rfl ?_ | refine OW_moveV (.int _ _) rfl ?_ | refine OW_moveV (.slice _ _ _) rfl ?_ | refine OW_moveV (.bool _) rfl ?_ | refine OW_moveV (.pointer _) rfl ?_ | refine OW_moveV (.string _) rfl ?_ | refine OW_moveV (.agg _) rfl ?_ | refine OW_moveV (.tuple _) rfl ?_ | refine OW_nil ?_ | refine thenE_normal ?_ | refine CW_seq ?_ | refine CW_region (by kernel_rfl) ?_ | refine OW_assignV (.int _ _) rfl ?_ | refine OW_assignV (.slice _ _ _) rfl ?_ | refine OW_assignV (.bool _) rfl ?_ | refine OW_assignV (.pointer _) rfl ?_ | refine OW_assignV (.string _) rfl ?_ | refine OW_assignV (.agg _) rfl ?_ | refine OW_assignV (.tuple _) rfl ?_ | refine OW_addI rfl rfl (by omega) ?_ | refine OW_subI rfl rfl (by omega) ?_ | refine OW_mulI rfl rfl (by omega) ?_ | refine OW_lss rfl rfl ?_ | refine OW_extract rfl rfl ?_ | refine OW_gtr rfl rfl ?_ | refine OW_leq rfl rfl ?_ | refine OW_geq rfl rfl ?_ | refine OW_eql rfl rfl ?_ | refine OW_neq rfl rfl ?_ | refine OW_not rfl ?_ | refine OW_pickT rfl _ rfl ?_ | refine OW_pickF rfl (.bool _) rfl ?_ | refine OW_pickB rfl rfl rfl ?_ | refine OW_move ?_ | refine OW_assign ?_ | refine OW_pass rfl ?_ | refine OW_take rfl ?_ | refine OW_lenS (by first | with_reducible exact und_bytes | with_reducible exact und_bytess) rfl ?_ | refine OW_convInt (by first | with_reducible exact und_u8 | with_reducible exact und_u64 | with_reducible exact und_int | with_reducible exact und_u32) (by first | with_reducible exact und_u8 | with_reducible exact und_u64 | with_reducible exact und_int | with_reducible exact und_u32) rfl ?_ | refine OW_add rfl rfl ?_ | refine OW_sub rfl rfl ?_ | refine OW_mul rfl rfl ?_ | refine OW_min2 rfl rfl ?_ | refine OW_max2 rfl rfl ?_ | refine OW_neg rfl ?_ | refine CW_block ?_ | refine CW_condT rfl ?_ | refine CW_condF rfl ?_ | refine CW_exit ?_ | refine CW_ret ?_ | refine CW_skip ?_ | refine LW_seq ?_ | refine LW_regC ?_ | refine LW_condC ?_ | refine LW_regF ?_ | refine LW_condF ?_ | refine FW_seq ?_ | refine FW_region (by kernel_rfl) ?_ | refine FW_block ?_ | refine FW_condT rfl ?_ | refine FW_condF rfl ?_ | refine FW_exit ?_ | refine FW_ret ?_ | refine FW_skip ?_ | refine LW_ret ?_ | refine LW_skip ?_ | refine thenE_exit ?_ | refine thenE_ret ?_ | refine inBlockE_normal ?_ | refine inBlockE_same ?_ | refine inBlockE_ret ?_ | refine inBlockE_ne (by rfl) ?_ | refine OW_eqlB (by with_reducible exact und_bool) rfl rfl ?_ | refine OW_neqB (by with_reducible exact und_bool) rfl rfl ?_ | refine OW_idxS (by with_reducible exact und_bytes) one_u8 rfl rfl _ rfl (by omega) ?_ | refine OW_idxS (by with_reducible exact und_bytess) one_bytes rfl rfl _ rfl (by omega) ?_ | refine OW_load1 (by first | with_reducible exact one_u8 | with_reducible exact one_bytes) rfl _ (by assumption) ?_ | refine OW_load1 s_bool rfl _ (by assumption) ?_ | refine OW_load1 d_ptr rfl _ (by assumption) ?_ | refine OW_load1 s_int rfl _ (by assumption) ?_)
  exact hEnd.out) (k : B) : A := h ⟨k⟩
theorem oy_Dsk1 {A B : Prop} (h : Held B → A := by
  intro hEnd
  repeat (first
    | refine OY_done ?_
    | (apply OY_p _ rfl
       · intro wd
         (first | refine OW_nilCheck rfl ?_ | refine OW_fieldB fldo_D0 rfl ?_ | refine OW_fieldB fldo_D1 rfl ?_ | refine OW_fieldB fldo_D2 rfl ?_ | refine OW_fieldB fldo_D3 rfl ?_ | refine OW_eqlNil und_pD rfl ?_ | refine OW_moveV (.int _ _) rfl ?_ | refine OW_moveV (.slice _ _ _) rfl ?_ | refine OW_moveV (.bool _) rfl ?_ | refine OW_moveV (.pointer _) rfl ?_ | refine OW_moveV (.string _) rfl ?_ | refine OW_moveV (.agg _) rfl ?_ | refine OW_moveV (.tuple _) rfl ?_ | refine OW_nil ?_ | refine thenE_normal ?_ | refine CW_seq ?_ | refine CW_region (by kernel_rfl) ?_ | refine OW_assignV (.int _ _) rfl ?_ | refine OW_assignV (.slice _ _ _) rfl ?_ | refine OW_assignV (.bool _) rfl ?_ | refine OW_assignV (.pointer _) rfl ?_ | refine OW_assignV (.string _) rfl ?_ | refine OW_assignV (.agg _) rfl ?_ | refine OW_assignV (.tuple _) rfl ?_ | refine OW_addI rfl rfl (by omega) ?_ | refine OW_subI rfl rfl (by omega) ?_ | refine OW_mulI rfl rfl (by omega) ?_ | refine OW_lss rfl rfl ?_ | refine OW_extract rfl rfl ?_ | refine OW_gtr rfl rfl ?_ | refine OW_leq rfl rfl ?_ | refine OW_geq rfl rfl ?_ | refine OW_eql rfl rfl ?_ | refine OW_neq rfl rfl ?_ | refine OW_not rfl ?_ | refine OW_pickT rfl _ rfl ?_ | refine OW_pickF rfl (.bool _) rfl ?_ | refine OW_pickB rfl rfl rfl ?_ | refine OW_move ?_ | refine OW_assign ?_ | refine OW_pass rfl ?_ | refine OW_take rfl ?_ | refine OW_lenS (by first | with_reducible exact und_bytes | with_reducible exact und_bytess) rfl ?_ | refine OW_convInt (by first | with_reducible exact und_u8 | with_reducible exact und_u64 | with_reducible exact und_int | with_reducible exact und_u32) (by first | with_reducible exact und_u8 | with_reducible exact und_u64 | with_reducible exact und_int | with_reducible exact und_u32) rfl ?_ | refine OW_add rfl rfl ?_ | refine OW_sub rfl rfl ?_ | refine OW_mul rfl rfl ?_ | refine OW_min2 rfl rfl ?_ | refine OW_max2 rfl rfl ?_ | refine OW_neg rfl ?_ | refine CW_block ?_ | refine CW_condT rfl ?_ | refine CW_condF rfl ?_ | refine CW_exit ?_ | refine CW_ret ?_ | refine CW_skip ?_ | refine LW_seq ?_ | refine LW_regC ?_ | refine LW_condC ?_ | refine LW_regF ?_ | refine LW_condF ?_ | refine FW_seq ?_ | refine FW_region (by kernel_rfl) ?_ | refine FW_block ?_ | refine FW_condT rfl ?_ | refine FW_condF rfl ?_ | refine FW_exit ?_ | refine FW_ret ?_ | refine FW_skip ?_ | refine LW_ret ?_ | refine LW_skip ?_ | refine thenE_exit ?_ | refine thenE_ret ?_ | refine inBlockE_normal ?_ | refine inBlockE_same ?_ | refine inBlockE_ret ?_ | refine inBlockE_ne (by rfl) ?_ | refine OW_eqlB (by with_reducible exact und_bool) rfl rfl ?_ | refine OW_neqB (by with_reducible exact und_bool) rfl rfl ?_ | refine OW_idxS (by with_reducible exact und_bytes) one_u8 rfl rfl _ rfl (by omega) ?_ | refine OW_idxS (by with_reducible exact und_bytess) one_bytes rfl rfl _ rfl (by omega) ?_ | refine OW_load1 (by first | with_reducible exact one_u8 | with_reducible exact one_bytes) rfl _ (by assumption) ?_ | refine OW_load1 s_bool rfl _ (by assumption) ?_ | refine OW_load1 d_ptr rfl _ (by assumption) ?_ | refine OW_load1 s_int rfl _ (by assumption) ?_)
         refine OW_nil ?_
         exact stay_mk _ _ _ _)
    | (apply OY_q _ rfl
       · intro wd hwd
         (first | refine OW_nilCheck rfl ?_ | refine OW_fieldB fldo_D0 rfl ?_ | refine OW_fieldB fldo_D1 rfl ?_ | refine OW_fieldB fldo_D2 rfl ?_ | refine OW_fieldB fldo_D3 rfl ?_ | refine OW_eqlNil und_pD rfl ?_ | refine OW_moveV (.int _ _) rfl ?_ | refine OW_moveV (.slice _ _ _) rfl ?_ | refine OW_moveV (.bool _) rfl ?_ | refine OW_moveV (.pointer _) rfl ?_ | refine OW_moveV (.string _) rfl ?_ | refine OW_moveV (.agg _) rfl ?_ | refine OW_moveV (.tuple _) rfl ?_ | refine OW_nil ?_ | refine thenE_normal ?_ | refine CW_seq ?_ | refine CW_region (by kernel_rfl) ?_ | refine OW_assignV (.int _ _) rfl ?_ | refine OW_assignV (.slice _ _ _) rfl ?_ | refine OW_assignV (.bool _) rfl ?_ | refine OW_assignV (.pointer _) rfl ?_ | refine OW_assignV (.string _) rfl ?_ | refine OW_assignV (.agg _) rfl ?_ | refine OW_assignV (.tuple _) rfl ?_ | refine OW_addI rfl rfl (by omega) ?_ | refine OW_subI rfl rfl (by omega) ?_ | refine OW_mulI rfl rfl (by omega) ?_ | refine OW_lss rfl rfl ?_ | refine OW_extract rfl rfl ?_ | refine OW_gtr rfl rfl ?_ | refine OW_leq rfl rfl ?_ | refine OW_geq rfl rfl ?_ | refine OW_eql rfl rfl ?_ | refine OW_neq rfl rfl ?_ | refine OW_not rfl ?_ | refine OW_pickT rfl _ rfl ?_ | refine OW_pickF rfl (.bool _) rfl ?_ | refine OW_pickB rfl rfl rfl ?_ | refine OW_move ?_ | refine OW_assign ?_ | refine OW_pass rfl ?_ | refine OW_take rfl ?_ | refine OW_lenS (by first | with_reducible exact und_bytes | with_reducible exact und_bytess) rfl ?_ | refine OW_convInt (by first | with_reducible exact und_u8 | with_reducible exact und_u64 | with_reducible exact und_int | with_reducible exact und_u32) (by first | with_reducible exact und_u8 | with_reducible exact und_u64 | with_reducible exact und_int | with_reducible exact und_u32) rfl ?_ | refine OW_add rfl rfl ?_ | refine OW_sub rfl rfl ?_ | refine OW_mul rfl rfl ?_ | refine OW_min2 rfl rfl ?_ | refine OW_max2 rfl rfl ?_ | refine OW_neg rfl ?_ | refine CW_block ?_ | refine CW_condT rfl ?_ | refine CW_condF rfl ?_ | refine CW_exit ?_ | refine CW_ret ?_ | refine CW_skip ?_ | refine LW_seq ?_ | refine LW_regC ?_ | refine LW_condC ?_ | refine LW_regF ?_ | refine LW_condF ?_ | refine FW_seq ?_ | refine FW_region (by kernel_rfl) ?_ | refine FW_block ?_ | refine FW_condT rfl ?_ | refine FW_condF rfl ?_ | refine FW_exit ?_ | refine FW_ret ?_ | refine FW_skip ?_ | refine LW_ret ?_ | refine LW_skip ?_ | refine thenE_exit ?_ | refine thenE_ret ?_ | refine inBlockE_normal ?_ | refine inBlockE_same ?_ | refine inBlockE_ret ?_ | refine inBlockE_ne (by rfl) ?_ | refine OW_eqlB (by with_reducible exact und_bool) rfl rfl ?_ | refine OW_neqB (by with_reducible exact und_bool) rfl rfl ?_ | refine OW_idxS (by with_reducible exact und_bytes) one_u8 rfl rfl _ rfl (by omega) ?_ | refine OW_idxS (by with_reducible exact und_bytess) one_bytes rfl rfl _ rfl (by omega) ?_ | refine OW_load1 (by first | with_reducible exact one_u8 | with_reducible exact one_bytes) rfl _ (by assumption) ?_ | refine OW_load1 s_bool rfl _ (by assumption) ?_ | refine OW_load1 d_ptr rfl _ (by assumption) ?_ | refine OW_load1 s_int rfl _ (by assumption) ?_ | (refine OW_isLoad ?_; refine OW_loadBk (by first | with_reducible exact one_u8 | with_reducible exact one_bytes | with_reducible exact one_bool | with_reducible exact one_int | with_reducible exact one_errno | with_reducible exact one_u32 | with_reducible exact one_u64 | with_reducible exact one_string | with_reducible exact one_bytess | with_reducible exact d_ptr | with_reducible exact s_int | with_reducible exact s_bool) rfl (by apply_assumption; assumption) _ (by first | assumption | rfl) ?_) | refine OW_load1 (by first | with_reducible exact one_u8 | with_reducible exact one_bytes | with_reducible exact one_bool | with_reducible exact one_int | with_reducible exact one_errno | with_reducible exact one_u32 | with_reducible exact one_u64 | with_reducible exact one_string | with_reducible exact one_bytess | with_reducible exact d_ptr | with_reducible exact s_int | with_reducible exact s_bool) rfl _ (by apply_assumption; assumption) ?_)
         refine OW_nil ?_
         exact stay_mk _ _ _ _)
    | refine OY_ppass rfl rfl ?_
    | refine OY_qpass rfl rfl ?_
    | (apply OY_ptake _ rfl rfl
       · intro wd
         (first | refine OW_nilCheck rfl ?_ | refine OW_fieldB fldo_D0 rfl ?_ | refine OW_fieldB fldo_D1 rfl ?_ | refine OW_fieldB fldo_D2 rfl ?_ | refine OW_fieldB fldo_D3 rfl ?_ | refine OW_eqlNil und_pD rfl ?_ | refine OW_moveV (.int _ _) rfl ?_ | refine OW_moveV (.slice _ _ _) rfl ?_ | refine OW_moveV (.bool _) rfl ?_ | refine OW_moveV (.pointer _) rfl ?_ | refine OW_moveV (.string _) rfl ?_ | refine OW_moveV (.agg _) rfl ?_ | refine OW_moveV (.tuple _) rfl ?_ | refine OW_nil ?_ | refine thenE_normal ?_ | refine CW_seq ?_ | refine CW_region (by kernel_rfl) ?_ | refine OW_assignV (.int _ _) rfl ?_ | refine OW_assignV (.slice _ _ _) rfl ?_ | refine OW_assignV (.bool _) rfl ?_ | refine OW_assignV (.pointer _) rfl ?_ | refine OW_assignV (.string _) rfl ?_ | refine OW_assignV (.agg _) rfl ?_ | refine OW_assignV (.tuple _) rfl ?_ | refine OW_addI rfl rfl (by omega) ?_ | refine OW_subI rfl rfl (by omega) ?_ | refine OW_mulI rfl rfl (by omega) ?_ | refine OW_lss rfl rfl ?_ | refine OW_extract rfl rfl ?_ | refine OW_gtr rfl rfl ?_ | refine OW_leq rfl rfl ?_ | refine OW_geq rfl rfl ?_ | refine OW_eql rfl rfl ?_ | refine OW_neq rfl rfl ?_ | refine OW_not rfl ?_ | refine OW_pickT rfl _ rfl ?_ | refine OW_pickF rfl (.bool _) rfl ?_ | refine OW_pickB rfl rfl rfl ?_ | refine OW_move ?_ | refine OW_assign ?_ | refine OW_pass rfl ?_ | refine OW_take rfl ?_ | refine OW_lenS (by first | with_reducible exact und_bytes | with_reducible exact und_bytess) rfl ?_ | refine OW_convInt (by first | with_reducible exact und_u8 | with_reducible exact und_u64 | with_reducible exact und_int | with_reducible exact und_u32) (by first | with_reducible exact und_u8 | with_reducible exact und_u64 | with_reducible exact und_int | with_reducible exact und_u32) rfl ?_ | refine OW_add rfl rfl ?_ | refine OW_sub rfl rfl ?_ | refine OW_mul rfl rfl ?_ | refine OW_min2 rfl rfl ?_ | refine OW_max2 rfl rfl ?_ | refine OW_neg rfl ?_ | refine CW_block ?_ | refine CW_condT rfl ?_ | refine CW_condF rfl ?_ | refine CW_exit ?_ | refine CW_ret ?_ | refine CW_skip ?_ | refine LW_seq ?_ | refine LW_regC ?_ | refine LW_condC ?_ | refine LW_regF ?_ | refine LW_condF ?_ | refine FW_seq ?_ | refine FW_region (by kernel_rfl) ?_ | refine FW_block ?_ | refine FW_condT rfl ?_ | refine FW_condF rfl ?_ | refine FW_exit ?_ | refine FW_ret ?_ | refine FW_skip ?_ | refine LW_ret ?_ | refine LW_skip ?_ | refine thenE_exit ?_ | refine thenE_ret ?_ | refine inBlockE_normal ?_ | refine inBlockE_same ?_ | refine inBlockE_ret ?_ | refine inBlockE_ne (by rfl) ?_ | refine OW_eqlB (by with_reducible exact und_bool) rfl rfl ?_ | refine OW_neqB (by with_reducible exact und_bool) rfl rfl ?_ | refine OW_idxS (by with_reducible exact und_bytes) one_u8 rfl rfl _ rfl (by omega) ?_ | refine OW_idxS (by with_reducible exact und_bytess) one_bytes rfl rfl _ rfl (by omega) ?_ | refine OW_load1 (by first | with_reducible exact one_u8 | with_reducible exact one_bytes) rfl _ (by assumption) ?_ | refine OW_load1 s_bool rfl _ (by assumption) ?_ | refine OW_load1 d_ptr rfl _ (by assumption) ?_ | refine OW_load1 s_int rfl _ (by assumption) ?_)
         refine OW_nil ?_
         exact stay_mk _ _ _ _)
    | (apply OY_qtake _ rfl rfl
       · intro wd hwd
         (first | refine OW_nilCheck rfl ?_ | refine OW_fieldB fldo_D0 rfl ?_ | refine OW_fieldB fldo_D1 rfl ?_ | refine OW_fieldB fldo_D2 rfl ?_ | refine OW_fieldB fldo_D3 rfl ?_ | refine OW_eqlNil und_pD rfl ?_ | refine OW_moveV (.int _ _) rfl ?_ | refine OW_moveV (.slice _ _ _) rfl ?_ | refine OW_moveV (.bool _) rfl ?_ | refine OW_moveV (.pointer _) rfl ?_ | refine OW_moveV (.string _) rfl ?_ | refine OW_moveV (.agg _) rfl ?_ | refine OW_moveV (.tuple _) rfl ?_ | refine OW_nil ?_ | refine thenE_normal ?_ | refine CW_seq ?_ | refine CW_region (by kernel_rfl) ?_ | refine OW_assignV (.int _ _) rfl ?_ | refine OW_assignV (.slice _ _ _) rfl ?_ | refine OW_assignV (.bool _) rfl ?_ | refine OW_assignV (.pointer _) rfl ?_ | refine OW_assignV (.string _) rfl ?_ | refine OW_assignV (.agg _) rfl ?_ | refine OW_assignV (.tuple _) rfl ?_ | refine OW_addI rfl rfl (by omega) ?_ | refine OW_subI rfl rfl (by omega) ?_ | refine OW_mulI rfl rfl (by omega) ?_ | refine OW_lss rfl rfl ?_ | refine OW_extract rfl rfl ?_ | refine OW_gtr rfl rfl ?_ | refine OW_leq rfl rfl ?_ | refine OW_geq rfl rfl ?_ | refine OW_eql rfl rfl ?_ | refine OW_neq rfl rfl ?_ | refine OW_not rfl ?_ | refine OW_pickT rfl _ rfl ?_ | refine OW_pickF rfl (.bool _) rfl ?_ | refine OW_pickB rfl rfl rfl ?_ | refine OW_move ?_ | refine OW_assign ?_ | refine OW_pass rfl ?_ | refine OW_take rfl ?_ | refine OW_lenS (by first | with_reducible exact und_bytes | with_reducible exact und_bytess) rfl ?_ | refine OW_convInt (by first | with_reducible exact und_u8 | with_reducible exact und_u64 | with_reducible exact und_int | with_reducible exact und_u32) (by first | with_reducible exact und_u8 | with_reducible exact und_u64 | with_reducible exact und_int | with_reducible exact und_u32) rfl ?_ | refine OW_add rfl rfl ?_ | refine OW_sub rfl rfl ?_ | refine OW_mul rfl rfl ?_ | refine OW_min2 rfl rfl ?_ | refine OW_max2 rfl rfl ?_ | refine OW_neg rfl ?_ | refine CW_block ?_ | refine CW_condT rfl ?_ | refine CW_condF rfl ?_ | refine CW_exit ?_ | refine CW_ret ?_ | refine CW_skip ?_ | refine LW_seq ?_ | refine LW_regC ?_ | refine LW_condC ?_ | refine LW_regF ?_ | refine LW_condF ?_ | refine FW_seq ?_ | refine FW_region (by kernel_rfl) ?_ | refine FW_block ?_ | refine FW_condT rfl ?_ | refine FW_condF rfl ?_ | refine FW_exit ?_ | refine FW_ret ?_ | refine FW_skip ?_ | refine LW_ret ?_ | refine LW_skip ?_ | refine thenE_exit ?_ | refine thenE_ret ?_ | refine inBlockE_normal ?_ | refine inBlockE_same ?_ | refine inBlockE_ret ?_ | refine inBlockE_ne (by rfl) ?_ | refine OW_eqlB (by with_reducible exact und_bool) rfl rfl ?_ | refine OW_neqB (by with_reducible exact und_bool) rfl rfl ?_ | refine OW_idxS (by with_reducible exact und_bytes) one_u8 rfl rfl _ rfl (by omega) ?_ | refine OW_idxS (by with_reducible exact und_bytess) one_bytes rfl rfl _ rfl (by omega) ?_ | refine OW_load1 (by first | with_reducible exact one_u8 | with_reducible exact one_bytes) rfl _ (by assumption) ?_ | refine OW_load1 s_bool rfl _ (by assumption) ?_ | refine OW_load1 d_ptr rfl _ (by assumption) ?_ | refine OW_load1 s_int rfl _ (by assumption) ?_ | (refine OW_isLoad ?_; refine OW_loadBk (by first | with_reducible exact one_u8 | with_reducible exact one_bytes | with_reducible exact one_bool | with_reducible exact one_int | with_reducible exact one_errno | with_reducible exact one_u32 | with_reducible exact one_u64 | with_reducible exact one_string | with_reducible exact one_bytess | with_reducible exact d_ptr | with_reducible exact s_int | with_reducible exact s_bool) rfl (by apply_assumption; assumption) _ (by first | assumption | rfl) ?_) | refine OW_load1 (by first | with_reducible exact one_u8 | with_reducible exact one_bytes | with_reducible exact one_bool | with_reducible exact one_int | with_reducible exact one_errno | with_reducible exact one_u32 | with_reducible exact one_u64 | with_reducible exact one_string | with_reducible exact one_bytess | with_reducible exact d_ptr | with_reducible exact s_int | with_reducible exact s_bool) rfl _ (by apply_assumption; assumption) ?_)
         refine OW_nil ?_
         exact stay_mk _ _ _ _)
    | refine OY_a (actY_of rfl ?_)
    | refine OY_d (actY_of rfl ?_)
    | refine OY_a (actY_pass rfl rfl ?_)
    | refine OY_d (actY_pass rfl rfl ?_)
    | refine OY_a (actY_take rfl rfl ?_)
    | refine OY_d (actY_take rfl rfl ?_))
  exact hEnd.out) (k : B) : A := h ⟨k⟩
section
variable {P : Program} {ops : Array Oper} {Q : Exit → (Nat → Value) → World → Prop} {rest : List Oper} {e : Nat → Value} {w : World} {d : Tmp} {ty : TypeId} {pos : String} {aft : Array Edge}
theorem OW_eqlSn {x : Operand} {t t' el : TypeId} {A : Option Addr} {n c : Nat} (ht : P.underlying t = some (.slice el)) (hx : ev e x = .slice A n c) (h : OW P ops Q rest (upd e d (.bool A.isNone)) w) : OW P ops Q (⟨some d, .binOp .eql t x (.const (.slice none 0 0)) t', ty, pos, aft, none⟩ :: rest) e w := by
  refine OW_val (.bool A.isNone) rfl ?_ h
  have hr : (Op.equal t (.slice A n c) (.slice none 0 0)).run P w = .ok A.isNone w := by
    have h : ∀ d, (Op.equalIn (d + 1) t (.slice A n c) (.slice none 0 0)).run P w = .ok A.isNone w := fun d => by cases A <;> simp [Op.equalIn, run_underlying ht]
    exact h 9999
  have hcn : ev e (.const (.slice none 0 0)) = .slice none 0 0 := rfl
  simp only [execOp, hx, hcn]
  show Sem.run P ((do eqGuard .eql t x (.const (.slice none 0 0)) (.slice A n c) (.slice none 0 0); binOp .eql t (.slice A n c) (.slice none 0 0)) >>= fun a => pure (Next.value a)) w = _
  rw [Sem.run_bind, run_eql_of rfl rfl hr]
  rfl
end
theorem FreB.mono {w : World} {base base' : Nat} {A : Option Addr} {l : List UInt8} (h : FreB w base A l) (hb : base' ≤ base) : FreB w base' A l :=
  ⟨h.bs, fun ad ha hl => by obtain ⟨g, h1, h2, h3⟩ := h.at_ ad ha hl; exact ⟨g, h1, by omega, h3⟩, h.frz⟩
theorem FreB.ext {w w' : World} {base : Nat} {A : Option Addr} {l : List UInt8} (h : FreB w base A l) (hx : Ext w w') : FreB w' base A l :=
  ⟨h.bs.ext hx, fun ad ha hl => by obtain ⟨g, h1, h2, h3⟩ := h.at_ ad ha hl; exact ⟨g, h1, h2, Nat.lt_of_lt_of_le h3 hx.size⟩, fun ad ha i hi => by
    obtain ⟨g, rfl, h2, h3⟩ := h.at_ ad ha (fun h => by rw [h] at hi; simp at hi)
    rw [hx.frozen (by rw [addr_add_block]; exact h3)]
    exact h.frz _ ha i hi⟩
theorem FreB.cutN {w : World} {base : Nat} {A : Option Addr} {l : List UInt8} (h : FreB w base A l) {n : Nat} (hn : n ≤ l.length) : FreB w base (cutA A n 0) (l.take n) := by
  have hne : l.take n ≠ [] → l ≠ [] := fun h1 h2 => by rw [h2] at h1; simp at h1
  have hA : l ≠ [] → cutA A n 0 = A := fun hl => by
    unfold cutA
    split
    · rfl
    · cases A with
      | none => rfl
      | some ad => obtain ⟨g, rfl, _⟩ := h.at_ ad rfl hl; simp [Addr.add]
  refine ⟨?_, fun ad ha hl => ?_, fun ad ha i hi => ?_⟩
  · have := h.bs.cut n 0 n (by omega)
    simpa using this
  · rw [hA (hne hl)] at ha
    exact h.at_ ad ha (hne hl)
  · have hl : l ≠ [] := fun h2 => by rw [h2] at hi; simp at hi
    rw [hA hl] at ha
    exact h.frz ad ha i (by rw [List.length_take] at hi; omega)
set_option maxHeartbeats 8000000 in
theorem dnone_any (w : World) (g : Nat) (cs : Array Value) (h : Blk w g 41 cs) (h0 : cs[0]? = some (.bool true)) : Calls Try.prog 55 #[.pointer (some ⟨g, 0, none⟩)] w (RetV w (.bool false)) := by
  refine calls_of_CW Try.func55 rfl (by simp [Try.ntmps55]) ?_
  rw [Try.ntmps55]
  refine go_Dsk1 (k := ?_)
  refine OW_isLoad ?_
  refine OW_loadBk s_bool rfl h _ h0 ?_
  refine go_Dsk1 (k := ?_)
  exact bodyE_ret1 rfl (.bool false) rfl ⟨rfl, Ext.rfl' w⟩
theorem bld_D : ∀ w, (Instr.build 41 [(0, .bool true), (1, .bool true)].toArray).run Try.prog w = .ok (.agg #[.bool true, .bool true, .slice none 0 0, .slice none 0 0]) w := fun w => by kernel_rfl
set_option maxHeartbeats 8000000 in
theorem newDisk_any (w : World) : Calls Try.prog 15 #[] w (fun en w' => ∃ g, en = .returned (.pointer (some ⟨g, 0, none⟩)) ∧ w.heap.size ≤ g ∧ Ext w w' ∧ DR w' g (more (fun _ => False) w w') dNew) := by
  refine calls_of_CW Try.func15 rfl (by simp [Try.ntmps15]) ?_
  rw [Try.ntmps15]
  refine go_Dsk1 (k := ?_)
  refine OW_build _ _ bld_D rfl ?_
  refine go_Dsk1 (k := ?_)
  refine OW_box _ rfl ?_
  intro w1 g hb hg hlt hx
  refine go_Dsk1 (k := ?_)
  exact bodyE_ret1 rfl (.pointer (some ⟨g, 0, none⟩)) rfl ⟨g, rfl, hg, hx, .inr ⟨hg, hlt⟩, ⟨none, 0, none, 0, [], hb, ⟨Bs.nil _ _, Nat.le_refl _, fun ad h => (by cases h)⟩, ⟨World.ownsRow_nil _ _ _ _, fun ad h => (by cases h)⟩, rfl, fun v h => by simp at h⟩, fun k hk => by rcases hk with h | h; exact h.elim; exact h.2⟩
set_option maxHeartbeats 8000000 in
theorem dUp_any (w : World) (g : Nat) (S : Nat → Prop) (d : DS) (h : DR w g S d) : Calls Try.prog 31 #[.pointer (some ⟨g, 0, none⟩)] w (RetV w (.bool d.up)) := by
  obtain ⟨A, c, W, cW, vs, hB, h1, h2, h3, h4⟩ := h.at_
  refine calls_of_CW Try.func31 rfl (by simp [Try.ntmps31]) ?_
  rw [Try.ntmps31]
  refine go_Dsk1 (k := ?_)
  refine OW_callV Try.func55 (by kernel_rfl) rfl (dnone_any w g _ hB rfl) rfl ?_
  intro w1 hx1
  refine go_Dsk1 (k := ?_)
  refine OW_isLoad ?_
  refine OW_loadBk s_bool rfl (hB.ext hx1) (.bool d.up) rfl ?_
  refine go_Dsk1 (k := ?_)
  exact bodyE_ret1 rfl (.bool d.up) rfl ⟨rfl, hx1⟩
set_option maxHeartbeats 8000000 in
theorem dSynced_any (w : World) (g : Nat) (S : Nat → Prop) (d : DS) (h : DR w g S d) : Calls Try.prog 29 #[.pointer (some ⟨g, 0, none⟩)] w (RetV w (.int .i64 d.s.length)) := by
  obtain ⟨A, c, W, cW, vs, hB, h1, h2, h3, h4⟩ := h.at_
  refine calls_of_CW Try.func29 rfl (by simp [Try.ntmps29]) ?_
  rw [Try.ntmps29]
  refine go_Dsk1 (k := ?_)
  refine OW_callV Try.func55 (by kernel_rfl) rfl (dnone_any w g _ hB rfl) rfl ?_
  intro w1 hx1
  refine go_Dsk1 (k := ?_)
  refine OW_isLoad ?_
  refine OW_loadBk one_bytes rfl (hB.ext hx1) (.slice A d.s.length c) rfl ?_
  refine go_Dsk1 (k := ?_)
  exact bodyE_ret1 rfl (.int .i64 d.s.length) rfl ⟨rfl, hx1⟩
set_option maxHeartbeats 8000000 in
theorem dWrites_any (w : World) (g : Nat) (S : Nat → Prop) (d : DS) (h : DR w g S d) : Calls Try.prog 30 #[.pointer (some ⟨g, 0, none⟩)] w (RetV w (.int .i64 d.ws.length)) := by
  obtain ⟨A, c, W, cW, vs, hB, h1, h2, h3, h4⟩ := h.at_
  have hl : vs.length = d.ws.length := by rw [← h3, List.length_map]
  refine calls_of_CW Try.func30 rfl (by simp [Try.ntmps30]) ?_
  rw [Try.ntmps30]
  refine go_Dsk1 (k := ?_)
  refine OW_callV Try.func55 (by kernel_rfl) rfl (dnone_any w g _ hB rfl) rfl ?_
  intro w1 hx1
  refine go_Dsk1 (k := ?_)
  refine OW_isLoad ?_
  refine OW_loadBk one_bytess rfl (hB.ext hx1) (.slice W vs.length cW) rfl ?_
  refine go_Dsk1 (k := ?_)
  exact bodyE_ret1 rfl (.int .i64 d.ws.length) (by rw [← hl]; rfl) ⟨rfl, hx1⟩
set_option maxHeartbeats 8000000 in
theorem dBytes_any (w : World) (g : Nat) (S : Nat → Prop) (d : DS) (h : DR w g S d) (hl : d.all.length ≤ 1000000) (hn : d.ws.length ≤ 1000000) : Calls Try.prog 28 #[.pointer (some ⟨g, 0, none⟩)] w (JoinP w d.all) := by
  obtain ⟨A, c, W, cW, vs, hB, ⟨h1, h1c, h1f⟩, ⟨h2, h2f⟩, h3, h4⟩ := h.at_
  have hvl : vs.length = d.ws.length := by rw [← h3, List.length_map]
  have hall : (((A, c, d.s) :: vs).map pay).flatten = d.all := by rw [List.map_cons, List.flatten_cons, h3]; rfl
  refine calls_of_CW Try.func28 rfl (by simp [Try.ntmps28]) ?_
  rw [Try.ntmps28]
  refine go_Dsk1 (k := ?_)
  refine OW_callV Try.func55 (by kernel_rfl) rfl (dnone_any w g _ hB rfl) rfl ?_
  intro w1 hx1
  have hB1 := hB.ext hx1
  refine go_Dsk1 (k := ?_)
  obtain ⟨C, hC⟩ : ∃ C : World → Prop, C = fun v => Ext w1 v := ⟨_, rfl⟩
  have y_hB1 := blkE hC hB1
  refine CW_tree2 [3, 8] (.p 0 (.p 1 (.p 2 (.q 3 (.p 5 (.p 6 (.p 7 (.q 8 (.a 4 (.d 9 (.d 10 (.p 11 .done)))))))))))) (C) (by kernel_rfl) (by kernel_rfl) (by kernel_rfl) ?_ ?_
  · exact inE hC
  intro w2 hx2 h_C
  refine oy_Dsk1 (k := ?_)
  refine OW_lit [.slice A d.s.length c] und_bytess info_bytes rfl rfl (by simp [Value.oneCell']) (by decide) ?_
  intro w3 g3 hb3 hg3 hx3
  first | refine OW_nil (goY_mkE hC (hx2.trans' hx3) ?_) | refine OW_nil (goY_dropE hC (hx2.trans' hx3) ?_)
  refine oy_Dsk1 (k := ?_)
  have hx03 := (hx1.trans' hx2).trans' hx3
  refine OW_append (base := w1.heap.size) und_bytess info_bytes rfl rfl rfl (hb3.own (by have := hx2.size; omega) (by show 1 ≤ maxLen; decide)) (own_rd (own_ext h2 hx03)) (by simp) (sv_one vs) (by unfold maxLen; omega) (by omega) (hx2.trans' hx3).size ?_
  intro w4 A4 c4 ho4 hbl4
  have hx14 : Ext w1 w4 := (hx2.trans' hx3).trans hbl4
  have hx04 := hx1.trans' hx14
  obtain ⟨g4, cur4, rfl, _⟩ := own_blk ho4 (by omega)
  first | refine OW_nil (goY_mkE hC (hx14) ?_) | refine OW_nil (goY_dropE hC (hx14) ?_)
  refine oy_Dsk1 (k := ?_)
  refine OW_callC Try.func54 (by kernel_rfl) rfl (join_bytes w4 g4 0 (1 + vs.length) c4 ((A, c, d.s) :: vs) ⟨own_rd ho4, fun v hv => ?_⟩ (by simp) (by simp; omega) (own_cap ho4).1 (by rw [hall]; omega) (by omega)) rfl ?_
  · rcases List.mem_cons.1 hv with rfl | hv
    · exact ⟨h1.ext hx04, h1c⟩
    · exact ⟨(h4 v hv).1.ext hx04, (h4 v hv).2.1⟩
  rintro en w5 ⟨A5, c5, rfl, hc5, hf5, hx5⟩
  rw [hall] at hc5 hf5 ⊢
  refine ⟨_, rfl, ?_⟩
  first | refine OW_nil (goY_mkE hC (hx14.trans' hx5) ?_) | refine OW_nil (goY_dropE hC (hx14.trans' hx5) ?_)
  refine oy_Dsk1 (k := ?_)
  refine go_Dsk1 (k := ?_)
  exact bodyE_ret1 rfl (.slice A5 d.all.length c5) rfl ⟨A5, c5, rfl, hc5, hf5.mono hx04.size, hx04.trans' hx5⟩
/-- What a disk's call comes to. -/
def MP (w : World) (g : Nat) (S : Nat → Prop) (x : Int × DS) : Ending → World → Prop := fun en w' => en = .returned (.int .i64 x.1) ∧ DR w' g (more S w w') x.2 ∧ Keeps w w' S
theorem more_lt {S : Nat → Prop} {w w' : World} (hb : ∀ k, S k → k < w.heap.size) (hs : w.heap.size ≤ w'.heap.size) : ∀ k, more S w w' k → k < w'.heap.size := fun k hk => by
  rcases hk with h | h
  · exact Nat.lt_of_lt_of_le (hb k h) hs
  · exact h.2
theorem MP.stay {w w' : World} {g : Nat} {S : Nat → Prop} {d : DS} (h : DR w g S d) (hx : Ext w w') (n : Int) : MP w g S (n, d) (.returned (.int .i64 n)) w' :=
  ⟨rfl, (h.ext hx).mono (fun k hk => .inl hk) (more_lt h.bd hx.size), Keeps.of_ext hx S⟩
theorem MP.of {w w1 w' : World} {g : Nat} {S : Nat → Prop} {x : Int × DS} {en : Ending} (h : MP w1 g S x en w') (hx : Ext w w1) (hb : ∀ k, S k → k < w.heap.size) : MP w g S x en w' :=
  ⟨h.1, h.2.1.mono (fun k hk => by
    rcases hk with h | h
    · exact .inl h
    · exact .inr ⟨by have := hx.size; omega, h.2⟩) (more_lt hb (by have := hx.size; have := h.2.2.size; omega)), (Keeps.of_ext hx S).trans' h.2.2⟩
set_option maxHeartbeats 8000000 in
theorem upr_any (w : World) (g : Nat) (S : Nat → Prop) (d : DS) (h : DR w g S d) (f : FuncId) (fn : Func) (caps : List Value) (R : Ending → World → Prop) (hf : Try.prog.funcs[f]? = some fn) (hnm : (fn.name == "runtime.NumGoroutine") = false) (hbd : fn.body.isNone = false)
    (hup : d.up = true → ∀ w1, Ext w w1 → Calls Try.prog f caps.toArray w1 (fun en w' => ∃ v, en = .returned v ∧ R (.returned v) w')) (hdn : d.up = false → ∀ w1, Ext w w1 → R (.returned (.int .i64 60)) w1) :
    Calls Try.prog 48 #[.pointer (some ⟨g, 0, none⟩), .func (.func f) #[] caps.toArray] w R := by
  obtain ⟨A, c, W, cW, vs, hB, h1, h2, h3, h4⟩ := h.at_
  obtain ⟨u, hu⟩ : ∃ u, d.up = u := ⟨_, rfl⟩
  rw [hu] at hB hup hdn
  refine calls_of_CW Try.func48 rfl (by simp [Try.ntmps48]) ?_
  rw [Try.ntmps48]
  refine go_Dsk1 (k := ?_)
  refine OW_callV Try.func55 (by kernel_rfl) rfl (dnone_any w g _ hB rfl) rfl ?_
  intro w1 hx1
  refine go_Dsk1 (k := ?_)
  refine OW_isLoad ?_
  refine OW_loadBk s_bool rfl (hB.ext hx1) (.bool u) rfl ?_
  refine go_Dsk1 (k := ?_)
  cases u with
  | false =>
    refine go_Dsk1 (k := ?_)
    exact bodyE_ret1 rfl (.int .i64 60) rfl (hdn rfl w1 hx1)
  | true =>
    refine go_Dsk1 (k := ?_)
    refine OW_callF (args := []) (args' := []) hf hnm hbd rfl (hup rfl w1 hx1) rfl ?_
    rintro en w2 ⟨v, rfl, hR⟩
    refine ⟨v, rfl, ?_⟩
    refine go_Dsk1 (k := ?_)
    exact bodyE_ret1 rfl v rfl hR
set_option maxHeartbeats 8000000 in
theorem settle_any (w : World) (g : Nat) (u x y : Value) (h : Blk w g 41 #[.bool true, u, x, y]) (B : Option Addr) (n c : Nat) : Calls Try.prog 52 #[.pointer (some ⟨g, 0, none⟩), .slice B n c] w
    (fun en w' => en = .returned (.tuple #[]) ∧ Blk w' g 41 #[.bool true, u, .slice B n c, .slice none 0 0] ∧ w.grownBy w' (some g)) := by
  refine calls_of_CW Try.func52 rfl (by simp [Try.ntmps52]) ?_
  rw [Try.ntmps52]
  refine go_Dsk1 (k := ?_)
  refine OW_storeB one_bytes rfl (.slice B n c) rfl rfl h (by show 2 < 4; decide) ?_
  intro w1 hb1 hg1
  have hb1 : Blk w1 g 41 #[.bool true, u, .slice B n c, y] := hb1
  refine go_Dsk1 (k := ?_)
  refine OW_storeB one_bytess rfl (.slice none 0 0) rfl rfl hb1 (by show 3 < 4; decide) ?_
  intro w2 hb2 hg2
  refine go_Dsk1 (k := ?_)
  refine bodyE_end (bodyE_ret0 rfl ⟨rfl, hb2, ?_⟩)
  exact ⟨hg2.os.trans hg1.os, hg2.tape.trans hg1.tape, hg2.output.trans hg1.output, Nat.le_trans hg1.size hg2.size, fun k hk hn => (hg2.block k (Nat.lt_of_lt_of_le hk hg1.size) hn).trans (hg1.block k hk hn)⟩
/-- A disk behind settle. -/
theorem DR.settled {w w1 w2 : World} {g : Nat} {S : Nat → Prop} {d : DS} {A : Option Addr} {c : Nat} {u : Bool} {l : List UInt8} (h : DR w g S d) (hx : Ext w w1) (hf : FreB w1 w.heap.size A l) (hc : l.length ≤ c) (hg : w1.grownBy w2 (some g))
    (hB : Blk w2 g 41 #[.bool true, .bool u, .slice A l.length c, .slice none 0 0]) : DR w2 g (more S w w2) ⟨u, l, []⟩ ∧ Keeps w w2 S := by
  have hk : Keeps w1 w2 S := Keeps.of_only hg h.in_
  have lg := h.bd g h.in_
  refine ⟨⟨.inl h.in_, ⟨A, c, none, 0, [], hB, ⟨?_, hc, fun ad ha hl => ?_⟩, ⟨World.ownsRow_nil _ _ _ _, fun ad h => (by cases h)⟩, rfl, fun v h => by simp at h⟩, more_lt h.bd (by have := hx.size; have := hk.size; omega)⟩, (Keeps.of_ext hx S).trans' hk⟩
  · by_cases hl : l = []
    · subst hl; exact Bs.nil _ _
    · refine hf.bs.keeps (Keeps.of_only hg (S := (· = g)) rfl) (fun ad ha hh => ?_)
      obtain ⟨g', rfl, h1, h2⟩ := hf.at_ ad ha hl
      have hh : g' = g := hh
      omega
  · obtain ⟨g', rfl, h1, h2⟩ := hf.at_ ad ha hl
    refine ⟨.inr ⟨h1, Nat.lt_of_lt_of_le h2 hk.size⟩, fun hh => ?_⟩
    rcases hh with hh | ⟨ad, ha2, _⟩
    · have hh : g' = g := hh
      omega
    · cases ha2
set_option maxHeartbeats 8000000 in
theorem sync1_any (w : World) (g : Nat) (S : Nat → Prop) (d : DS) (h : DR w g S d) (hu : d.up = true) (hl : d.all.length ≤ 1000000) (hn : d.ws.length ≤ 1000000) (gd : Nat) (hd : Blk w gd 25 #[.pointer (some ⟨g, 0, none⟩)]) :
    Calls Try.prog 51 #[.pointer (some ⟨gd, 0, none⟩)] w (MP w g S (0, ⟨true, d.all, []⟩)) := by
  refine calls_of_CW Try.func51 rfl (by simp [Try.ntmps51]) ?_
  rw [Try.ntmps51]
  refine go_Dsk1 (k := ?_)
  obtain ⟨C, hC⟩ : ∃ C : World → Prop, C = fun v => Ext w v := ⟨_, rfl⟩
  have y_hd := blkE hC hd
  refine CW_tree2 [0, 1] (.q 0 (.q 1 (.a 2 (.d 3 .done)))) (C) (by kernel_rfl) (by kernel_rfl) (by kernel_rfl) ?_ ?_
  · exact inE hC
  intro w2 hx2 h_C
  refine oy_Dsk1 (k := ?_)
  refine OW_callC Try.func28 (by kernel_rfl) rfl (dBytes_any w2 g S d (h.ext hx2) hl hn) rfl ?_
  rintro en w3 ⟨A3, c3, rfl, hc3, hf3, hx3⟩
  refine ⟨_, rfl, ?_⟩
  have hx03 := hx2.trans' hx3
  first | refine OW_nil (goY_mkE hC (hx03) ?_) | refine OW_nil (goY_dropE hC (hx03) ?_)
  refine oy_Dsk1 (k := ?_)
  obtain ⟨A, c, W, cW, vs, hB, _⟩ := (h.ext hx03).at_
  rw [hu] at hB
  refine OW_callC Try.func52 (by kernel_rfl) rfl (settle_any w3 g _ _ _ hB A3 d.all.length c3) rfl ?_
  rintro en w4 ⟨rfl, hB4, hg4⟩
  obtain ⟨hR, hK⟩ := h.settled hx03 (hf3.mono hx2.size) hc3 hg4 hB4
  refine ⟨_, rfl, OW_nil (goY_done ?_)⟩
  refine go_Dsk1 (k := ?_)
  exact bodyE_ret1 rfl (.int .i64 0) rfl ⟨rfl, hR, hK⟩
set_option maxHeartbeats 8000000 in
theorem dSync_any (w : World) (g : Nat) (S : Nat → Prop) (d : DS) (h : DR w g S d) (hl : d.all.length ≤ 1000000) (hn : d.ws.length ≤ 1000000) :
    Calls Try.prog 24 #[.pointer (some ⟨g, 0, none⟩)] w (MP w g S (dSync d)) := by
  refine calls_of_CW Try.func24 rfl (by simp [Try.ntmps24]) ?_
  rw [Try.ntmps24]
  refine go_Dsk1 (k := ?_)
  refine OW_box _ rfl ?_
  intro w1 gd hb1 hg1 hl1 hx1
  have hb1 : Blk w1 gd 25 #[.pointer (some ⟨g, 0, none⟩)] := hb1
  refine go_Dsk1 (k := ?_)
  refine OW_isLoad ?_
  refine OW_loadBk d_ptr rfl hb1 (.pointer (some ⟨g, 0, none⟩)) rfl ?_
  refine OW_mkFunc [.pointer (some ⟨gd, 0, none⟩)] rfl ?_
  refine OW_callC Try.func48 (by kernel_rfl) rfl (upr_any w1 g S d (h.ext hx1) 51 _ [.pointer (some ⟨gd, 0, none⟩)] (MP w g S (dSync d)) Try.func51 (by kernel_rfl) rfl (fun hu w2 hx2 => ?_) (fun hu w2 hx2 => ?_)) rfl ?_
  · refine (sync1_any w2 g S d ((h.ext hx1).ext hx2) hu hl hn gd (hb1.ext hx2)).mono ?_
    intro en w3 hm
    have := hm.of (hx1.trans' hx2) h.bd
    unfold dSync
    rw [if_pos hu]
    exact ⟨_, hm.1, by rw [← hm.1]; exact this⟩
  · unfold dSync
    rw [if_neg (by rw [hu]; decide)]
    exact MP.stay h (hx1.trans' hx2) 60
  intro en w2 hm
  refine ⟨_, hm.1, ?_⟩
  refine go_Dsk1 (k := ?_)
  exact bodyE_ret1 rfl (.int .i64 (dSync d).1) rfl ⟨rfl, hm.2⟩
end Go.Proofs.Ytnfeibbnjdegfaa
