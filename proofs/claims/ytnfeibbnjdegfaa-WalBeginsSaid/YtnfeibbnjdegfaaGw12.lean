/- Several texts in one, as they stand in wip/src. -/
import Derived.Test.YtnfeibbnjdegfaaGw1
import Derived.Test.YtnfeibbnjdegfaaGw2
import Derived.Test.YtnfeibbnjdegfaaGw3
import Derived.Test.YtnfeibbnjdegfaaGw4
import Derived.Test.YtnfeibbnjdegfaaGw5
import Derived.Test.YtnfeibbnjdegfaaGw9
import Derived.Test.YtnfeibbnjdegfaaGw11
/- Walks: frames, sealed and read, the program's and the reference's. -/
namespace Go.Proofs.Ytnfeibbnjdegfaa
open Go Go.RowKit
set_option linter.unusedVariables false
set_option maxRecDepth 4000
theorem go_Frm1 {A B : Prop} (h : Held B → A := by
  intro hEnd
  repeat (first | refine OW_sliceP h_slp_Tag rfl ?_ | refine OW_addU64 rfl rfl (by omega) ?_ | refine OW_convIn und_u32 und_int rfl (by omega) ?_ | refine OW_convIn und_u64 und_int rfl (by omega) ?_ | refine OW_convU64 und_int und_u64 rfl (by omega) ?_ | refine OW_moveV (.int _ _) rfl ?_ | refine OW_moveV (.slice _ _ _) rfl ?_ | refine OW_moveV (.bool _) rfl ?_ | refine OW_moveV (.pointer _) rfl ?_ | refine OW_moveV (.string _) rfl ?_ | refine OW_moveV (.agg _) rfl ?_ | refine OW_moveV (.tuple _) rfl ?_ | refine OW_nil ?_ | refine thenE_normal ?_ | refine CW_seq ?_ | refine CW_region (by kernel_rfl) ?_ | refine OW_assignV (.int _ _) rfl ?_ | refine OW_assignV (.slice _ _ _) rfl ?_ | refine OW_assignV (.bool _) rfl ?_ | refine OW_assignV (.pointer _) rfl ?_ | refine OW_assignV (.string _) rfl ?_ | refine OW_assignV (.agg _) rfl ?_ | refine OW_assignV (.tuple _) rfl ?_ | refine OW_addI rfl rfl (by omega) ?_ | refine OW_subI rfl rfl (by omega) ?_ | refine OW_mulI rfl rfl (by omega) ?_ | refine OW_lss rfl rfl ?_ | refine OW_extract rfl rfl ?_ | refine OW_gtr rfl rfl ?_ | refine OW_leq rfl rfl ?_ | refine OW_geq rfl rfl ?_ | refine OW_eql rfl rfl ?_ | refine OW_neq rfl rfl ?_ | refine OW_not rfl ?_ | refine OW_pickT rfl _ rfl ?_ | refine OW_pickF rfl (.bool _) rfl ?_ | refine OW_pickB rfl rfl rfl ?_ | refine OW_move ?_ | refine OW_assign ?_ | refine OW_pass rfl ?_ | refine OW_take rfl ?_ | refine OW_lenS (by first | with_reducible exact und_bytes | with_reducible exact und_bytess) rfl ?_ | refine OW_convInt (by first | with_reducible exact und_u8 | with_reducible exact und_u64 | with_reducible exact und_int | with_reducible exact und_u32) (by first | with_reducible exact und_u8 | with_reducible exact und_u64 | with_reducible exact und_int | with_reducible exact und_u32) rfl ?_ | refine OW_add rfl rfl ?_ | refine OW_sub rfl rfl ?_ | refine OW_mul rfl rfl ?_ | refine OW_min2 rfl rfl ?_ | refine OW_max2 rfl rfl ?_ | refine OW_neg rfl ?_ | refine CW_block ?_ | refine CW_condT rfl ?_ | refine CW_condF rfl ?_ | refine CW_exit ?_ | refine CW_ret ?_ | refine CW_skip ?_ | refine LW_seq ?_ | refine LW_regC ?_ | refine LW_condC ?_ | refine LW_regF ?_ | refine LW_condF ?_ | refine FW_seq ?_ | refine FW_region (by kernel_rfl) ?_ | refine FW_block ?_ | refine FW_condT rfl ?_ | refine FW_condF rfl ?_ | refine FW_exit ?_ | refine FW_ret ?_ | refine FW_skip ?_ | refine LW_ret ?_ | refine LW_skip ?_ | refine thenE_exit ?_ | refine thenE_ret ?_ | refine inBlockE_normal ?_ | refine inBlockE_same ?_ | refine inBlockE_ret ?_ | refine inBlockE_ne (by rfl) ?_ | refine OW_eqlB (by with_reducible exact und_bool) rfl rfl ?_ | refine OW_neqB (by with_reducible exact und_bool) rfl rfl ?_ | refine OW_idxS (by with_reducible exact und_bytes) one_u8 rfl rfl _ rfl (by omega) ?_ | refine OW_idxS (by with_reducible exact und_bytess) one_bytes rfl rfl _ rfl (by omega) ?_ | refine OW_load1 (by first | with_reducible exact one_u8 | with_reducible exact one_bytes) rfl _ (by assumption) ?_)
  exact hEnd.out) (k : B) : A := h ⟨k⟩
theorem oy_Frm1 {A B : Prop} (h : Held B → A := by
  intro hEnd
  repeat (first
    | refine OY_done ?_
    | (apply OY_p _ rfl
       · intro wd
         (first | refine OW_sliceP h_slp_Tag rfl ?_ | refine OW_addU64 rfl rfl (by omega) ?_ | refine OW_convIn und_u32 und_int rfl (by omega) ?_ | refine OW_convIn und_u64 und_int rfl (by omega) ?_ | refine OW_convU64 und_int und_u64 rfl (by omega) ?_ | refine OW_moveV (.int _ _) rfl ?_ | refine OW_moveV (.slice _ _ _) rfl ?_ | refine OW_moveV (.bool _) rfl ?_ | refine OW_moveV (.pointer _) rfl ?_ | refine OW_moveV (.string _) rfl ?_ | refine OW_moveV (.agg _) rfl ?_ | refine OW_moveV (.tuple _) rfl ?_ | refine OW_nil ?_ | refine thenE_normal ?_ | refine CW_seq ?_ | refine CW_region (by kernel_rfl) ?_ | refine OW_assignV (.int _ _) rfl ?_ | refine OW_assignV (.slice _ _ _) rfl ?_ | refine OW_assignV (.bool _) rfl ?_ | refine OW_assignV (.pointer _) rfl ?_ | refine OW_assignV (.string _) rfl ?_ | refine OW_assignV (.agg _) rfl ?_ | refine OW_assignV (.tuple _) rfl ?_ | refine OW_addI rfl rfl (by omega) ?_ | refine OW_subI rfl rfl (by omega) ?_ | refine OW_mulI rfl rfl (by omega) ?_ | refine OW_lss rfl rfl ?_ | refine OW_extract rfl rfl ?_ | refine OW_gtr rfl rfl ?_ | refine OW_leq rfl rfl ?_ | refine OW_geq rfl rfl ?_ | refine OW_eql rfl rfl ?_ | refine OW_neq rfl rfl ?_ | refine OW_not rfl ?_ | refine OW_pickT rfl _ rfl ?_ | refine OW_pickF rfl (.bool _) rfl ?_ | refine OW_pickB rfl rfl rfl ?_ | refine OW_move ?_ | refine OW_assign ?_ | refine OW_pass rfl ?_ | refine OW_take rfl ?_ | refine OW_lenS (by first | with_reducible exact und_bytes | with_reducible exact und_bytess) rfl ?_ | refine OW_convInt (by first | with_reducible exact und_u8 | with_reducible exact und_u64 | with_reducible exact und_int | with_reducible exact und_u32) (by first | with_reducible exact und_u8 | with_reducible exact und_u64 | with_reducible exact und_int | with_reducible exact und_u32) rfl ?_ | refine OW_add rfl rfl ?_ | refine OW_sub rfl rfl ?_ | refine OW_mul rfl rfl ?_ | refine OW_min2 rfl rfl ?_ | refine OW_max2 rfl rfl ?_ | refine OW_neg rfl ?_ | refine CW_block ?_ | refine CW_condT rfl ?_ | refine CW_condF rfl ?_ | refine CW_exit ?_ | refine CW_ret ?_ | refine CW_skip ?_ | refine LW_seq ?_ | refine LW_regC ?_ | refine LW_condC ?_ | refine LW_regF ?_ | refine LW_condF ?_ | refine FW_seq ?_ | refine FW_region (by kernel_rfl) ?_ | refine FW_block ?_ | refine FW_condT rfl ?_ | refine FW_condF rfl ?_ | refine FW_exit ?_ | refine FW_ret ?_ | refine FW_skip ?_ | refine LW_ret ?_ | refine LW_skip ?_ | refine thenE_exit ?_ | refine thenE_ret ?_ | refine inBlockE_normal ?_ | refine inBlockE_same ?_ | refine inBlockE_ret ?_ | refine inBlockE_ne (by rfl) ?_ | refine OW_eqlB (by with_reducible exact und_bool) rfl rfl ?_ | refine OW_neqB (by with_reducible exact und_bool) rfl rfl ?_ | refine OW_idxS (by with_reducible exact und_bytes) one_u8 rfl rfl _ rfl (by omega) ?_ | refine OW_idxS (by with_reducible exact und_bytess) one_bytes rfl rfl _ rfl (by omega) ?_ | refine OW_load1 (by first | with_reducible exact one_u8 | with_reducible exact one_bytes) rfl _ (by assumption) ?_)
         refine OW_nil ?_
         exact stay_mk _ _ _ _)
    | (apply OY_q _ rfl
       · intro wd hwd
         (first | refine OW_sliceP h_slp_Tag rfl ?_ | refine OW_addU64 rfl rfl (by omega) ?_ | refine OW_convIn und_u32 und_int rfl (by omega) ?_ | refine OW_convIn und_u64 und_int rfl (by omega) ?_ | refine OW_convU64 und_int und_u64 rfl (by omega) ?_ | refine OW_moveV (.int _ _) rfl ?_ | refine OW_moveV (.slice _ _ _) rfl ?_ | refine OW_moveV (.bool _) rfl ?_ | refine OW_moveV (.pointer _) rfl ?_ | refine OW_moveV (.string _) rfl ?_ | refine OW_moveV (.agg _) rfl ?_ | refine OW_moveV (.tuple _) rfl ?_ | refine OW_nil ?_ | refine thenE_normal ?_ | refine CW_seq ?_ | refine CW_region (by kernel_rfl) ?_ | refine OW_assignV (.int _ _) rfl ?_ | refine OW_assignV (.slice _ _ _) rfl ?_ | refine OW_assignV (.bool _) rfl ?_ | refine OW_assignV (.pointer _) rfl ?_ | refine OW_assignV (.string _) rfl ?_ | refine OW_assignV (.agg _) rfl ?_ | refine OW_assignV (.tuple _) rfl ?_ | refine OW_addI rfl rfl (by omega) ?_ | refine OW_subI rfl rfl (by omega) ?_ | refine OW_mulI rfl rfl (by omega) ?_ | refine OW_lss rfl rfl ?_ | refine OW_extract rfl rfl ?_ | refine OW_gtr rfl rfl ?_ | refine OW_leq rfl rfl ?_ | refine OW_geq rfl rfl ?_ | refine OW_eql rfl rfl ?_ | refine OW_neq rfl rfl ?_ | refine OW_not rfl ?_ | refine OW_pickT rfl _ rfl ?_ | refine OW_pickF rfl (.bool _) rfl ?_ | refine OW_pickB rfl rfl rfl ?_ | refine OW_move ?_ | refine OW_assign ?_ | refine OW_pass rfl ?_ | refine OW_take rfl ?_ | refine OW_lenS (by first | with_reducible exact und_bytes | with_reducible exact und_bytess) rfl ?_ | refine OW_convInt (by first | with_reducible exact und_u8 | with_reducible exact und_u64 | with_reducible exact und_int | with_reducible exact und_u32) (by first | with_reducible exact und_u8 | with_reducible exact und_u64 | with_reducible exact und_int | with_reducible exact und_u32) rfl ?_ | refine OW_add rfl rfl ?_ | refine OW_sub rfl rfl ?_ | refine OW_mul rfl rfl ?_ | refine OW_min2 rfl rfl ?_ | refine OW_max2 rfl rfl ?_ | refine OW_neg rfl ?_ | refine CW_block ?_ | refine CW_condT rfl ?_ | refine CW_condF rfl ?_ | refine CW_exit ?_ | refine CW_ret ?_ | refine CW_skip ?_ | refine LW_seq ?_ | refine LW_regC ?_ | refine LW_condC ?_ | refine LW_regF ?_ | refine LW_condF ?_ | refine FW_seq ?_ | refine FW_region (by kernel_rfl) ?_ | refine FW_block ?_ | refine FW_condT rfl ?_ | refine FW_condF rfl ?_ | refine FW_exit ?_ | refine FW_ret ?_ | refine FW_skip ?_ | refine LW_ret ?_ | refine LW_skip ?_ | refine thenE_exit ?_ | refine thenE_ret ?_ | refine inBlockE_normal ?_ | refine inBlockE_same ?_ | refine inBlockE_ret ?_ | refine inBlockE_ne (by rfl) ?_ | refine OW_eqlB (by with_reducible exact und_bool) rfl rfl ?_ | refine OW_neqB (by with_reducible exact und_bool) rfl rfl ?_ | refine OW_idxS (by with_reducible exact und_bytes) one_u8 rfl rfl _ rfl (by omega) ?_ | refine OW_idxS (by with_reducible exact und_bytess) one_bytes rfl rfl _ rfl (by omega) ?_ | refine OW_load1 (by first | with_reducible exact one_u8 | with_reducible exact one_bytes) rfl _ (by assumption) ?_ | (refine OW_isLoad ?_; refine OW_loadBk (by first | with_reducible exact one_u8 | with_reducible exact one_bytes | with_reducible exact one_bool | with_reducible exact one_int | with_reducible exact one_errno | with_reducible exact one_u32 | with_reducible exact one_u64 | with_reducible exact one_string) rfl (by apply_assumption; assumption) _ (by first | assumption | rfl) ?_) | refine OW_load1 (by first | with_reducible exact one_u8 | with_reducible exact one_bytes | with_reducible exact one_bool | with_reducible exact one_int | with_reducible exact one_errno | with_reducible exact one_u32 | with_reducible exact one_u64 | with_reducible exact one_string) rfl _ (by apply_assumption; assumption) ?_)
         refine OW_nil ?_
         exact stay_mk _ _ _ _)
    | refine OY_ppass rfl rfl ?_
    | refine OY_qpass rfl rfl ?_
    | (apply OY_ptake _ rfl rfl
       · intro wd
         (first | refine OW_sliceP h_slp_Tag rfl ?_ | refine OW_addU64 rfl rfl (by omega) ?_ | refine OW_convIn und_u32 und_int rfl (by omega) ?_ | refine OW_convIn und_u64 und_int rfl (by omega) ?_ | refine OW_convU64 und_int und_u64 rfl (by omega) ?_ | refine OW_moveV (.int _ _) rfl ?_ | refine OW_moveV (.slice _ _ _) rfl ?_ | refine OW_moveV (.bool _) rfl ?_ | refine OW_moveV (.pointer _) rfl ?_ | refine OW_moveV (.string _) rfl ?_ | refine OW_moveV (.agg _) rfl ?_ | refine OW_moveV (.tuple _) rfl ?_ | refine OW_nil ?_ | refine thenE_normal ?_ | refine CW_seq ?_ | refine CW_region (by kernel_rfl) ?_ | refine OW_assignV (.int _ _) rfl ?_ | refine OW_assignV (.slice _ _ _) rfl ?_ | refine OW_assignV (.bool _) rfl ?_ | refine OW_assignV (.pointer _) rfl ?_ | refine OW_assignV (.string _) rfl ?_ | refine OW_assignV (.agg _) rfl ?_ | refine OW_assignV (.tuple _) rfl ?_ | refine OW_addI rfl rfl (by omega) ?_ | refine OW_subI rfl rfl (by omega) ?_ | refine OW_mulI rfl rfl (by omega) ?_ | refine OW_lss rfl rfl ?_ | refine OW_extract rfl rfl ?_ | refine OW_gtr rfl rfl ?_ | refine OW_leq rfl rfl ?_ | refine OW_geq rfl rfl ?_ | refine OW_eql rfl rfl ?_ | refine OW_neq rfl rfl ?_ | refine OW_not rfl ?_ | refine OW_pickT rfl _ rfl ?_ | refine OW_pickF rfl (.bool _) rfl ?_ | refine OW_pickB rfl rfl rfl ?_ | refine OW_move ?_ | refine OW_assign ?_ | refine OW_pass rfl ?_ | refine OW_take rfl ?_ | refine OW_lenS (by first | with_reducible exact und_bytes | with_reducible exact und_bytess) rfl ?_ | refine OW_convInt (by first | with_reducible exact und_u8 | with_reducible exact und_u64 | with_reducible exact und_int | with_reducible exact und_u32) (by first | with_reducible exact und_u8 | with_reducible exact und_u64 | with_reducible exact und_int | with_reducible exact und_u32) rfl ?_ | refine OW_add rfl rfl ?_ | refine OW_sub rfl rfl ?_ | refine OW_mul rfl rfl ?_ | refine OW_min2 rfl rfl ?_ | refine OW_max2 rfl rfl ?_ | refine OW_neg rfl ?_ | refine CW_block ?_ | refine CW_condT rfl ?_ | refine CW_condF rfl ?_ | refine CW_exit ?_ | refine CW_ret ?_ | refine CW_skip ?_ | refine LW_seq ?_ | refine LW_regC ?_ | refine LW_condC ?_ | refine LW_regF ?_ | refine LW_condF ?_ | refine FW_seq ?_ | refine FW_region (by kernel_rfl) ?_ | refine FW_block ?_ | refine FW_condT rfl ?_ | refine FW_condF rfl ?_ | refine FW_exit ?_ | refine FW_ret ?_ | refine FW_skip ?_ | refine LW_ret ?_ | refine LW_skip ?_ | refine thenE_exit ?_ | refine thenE_ret ?_ | refine inBlockE_normal ?_ | refine inBlockE_same ?_ | refine inBlockE_ret ?_ | refine inBlockE_ne (by rfl) ?_ | refine OW_eqlB (by with_reducible exact und_bool) rfl rfl ?_ | refine OW_neqB (by with_reducible exact und_bool) rfl rfl ?_ | refine OW_idxS (by with_reducible exact und_bytes) one_u8 rfl rfl _ rfl (by omega) ?_ | refine OW_idxS (by with_reducible exact und_bytess) one_bytes rfl rfl _ rfl (by omega) ?_ | refine OW_load1 (by first | with_reducible exact one_u8 | with_reducible exact one_bytes) rfl _ (by assumption) ?_)
         refine OW_nil ?_
         exact stay_mk _ _ _ _)
    | (apply OY_qtake _ rfl rfl
       · intro wd hwd
         (first | refine OW_sliceP h_slp_Tag rfl ?_ | refine OW_addU64 rfl rfl (by omega) ?_ | refine OW_convIn und_u32 und_int rfl (by omega) ?_ | refine OW_convIn und_u64 und_int rfl (by omega) ?_ | refine OW_convU64 und_int und_u64 rfl (by omega) ?_ | refine OW_moveV (.int _ _) rfl ?_ | refine OW_moveV (.slice _ _ _) rfl ?_ | refine OW_moveV (.bool _) rfl ?_ | refine OW_moveV (.pointer _) rfl ?_ | refine OW_moveV (.string _) rfl ?_ | refine OW_moveV (.agg _) rfl ?_ | refine OW_moveV (.tuple _) rfl ?_ | refine OW_nil ?_ | refine thenE_normal ?_ | refine CW_seq ?_ | refine CW_region (by kernel_rfl) ?_ | refine OW_assignV (.int _ _) rfl ?_ | refine OW_assignV (.slice _ _ _) rfl ?_ | refine OW_assignV (.bool _) rfl ?_ | refine OW_assignV (.pointer _) rfl ?_ | refine OW_assignV (.string _) rfl ?_ | refine OW_assignV (.agg _) rfl ?_ | refine OW_assignV (.tuple _) rfl ?_ | refine OW_addI rfl rfl (by omega) ?_ | refine OW_subI rfl rfl (by omega) ?_ | refine OW_mulI rfl rfl (by omega) ?_ | refine OW_lss rfl rfl ?_ | refine OW_extract rfl rfl ?_ | refine OW_gtr rfl rfl ?_ | refine OW_leq rfl rfl ?_ | refine OW_geq rfl rfl ?_ | refine OW_eql rfl rfl ?_ | refine OW_neq rfl rfl ?_ | refine OW_not rfl ?_ | refine OW_pickT rfl _ rfl ?_ | refine OW_pickF rfl (.bool _) rfl ?_ | refine OW_pickB rfl rfl rfl ?_ | refine OW_move ?_ | refine OW_assign ?_ | refine OW_pass rfl ?_ | refine OW_take rfl ?_ | refine OW_lenS (by first | with_reducible exact und_bytes | with_reducible exact und_bytess) rfl ?_ | refine OW_convInt (by first | with_reducible exact und_u8 | with_reducible exact und_u64 | with_reducible exact und_int | with_reducible exact und_u32) (by first | with_reducible exact und_u8 | with_reducible exact und_u64 | with_reducible exact und_int | with_reducible exact und_u32) rfl ?_ | refine OW_add rfl rfl ?_ | refine OW_sub rfl rfl ?_ | refine OW_mul rfl rfl ?_ | refine OW_min2 rfl rfl ?_ | refine OW_max2 rfl rfl ?_ | refine OW_neg rfl ?_ | refine CW_block ?_ | refine CW_condT rfl ?_ | refine CW_condF rfl ?_ | refine CW_exit ?_ | refine CW_ret ?_ | refine CW_skip ?_ | refine LW_seq ?_ | refine LW_regC ?_ | refine LW_condC ?_ | refine LW_regF ?_ | refine LW_condF ?_ | refine FW_seq ?_ | refine FW_region (by kernel_rfl) ?_ | refine FW_block ?_ | refine FW_condT rfl ?_ | refine FW_condF rfl ?_ | refine FW_exit ?_ | refine FW_ret ?_ | refine FW_skip ?_ | refine LW_ret ?_ | refine LW_skip ?_ | refine thenE_exit ?_ | refine thenE_ret ?_ | refine inBlockE_normal ?_ | refine inBlockE_same ?_ | refine inBlockE_ret ?_ | refine inBlockE_ne (by rfl) ?_ | refine OW_eqlB (by with_reducible exact und_bool) rfl rfl ?_ | refine OW_neqB (by with_reducible exact und_bool) rfl rfl ?_ | refine OW_idxS (by with_reducible exact und_bytes) one_u8 rfl rfl _ rfl (by omega) ?_ | refine OW_idxS (by with_reducible exact und_bytess) one_bytes rfl rfl _ rfl (by omega) ?_ | refine OW_load1 (by first | with_reducible exact one_u8 | with_reducible exact one_bytes) rfl _ (by assumption) ?_ | (refine OW_isLoad ?_; refine OW_loadBk (by first | with_reducible exact one_u8 | with_reducible exact one_bytes | with_reducible exact one_bool | with_reducible exact one_int | with_reducible exact one_errno | with_reducible exact one_u32 | with_reducible exact one_u64 | with_reducible exact one_string) rfl (by apply_assumption; assumption) _ (by first | assumption | rfl) ?_) | refine OW_load1 (by first | with_reducible exact one_u8 | with_reducible exact one_bytes | with_reducible exact one_bool | with_reducible exact one_int | with_reducible exact one_errno | with_reducible exact one_u32 | with_reducible exact one_u64 | with_reducible exact one_string) rfl _ (by apply_assumption; assumption) ?_)
         refine OW_nil ?_
         exact stay_mk _ _ _ _)
    | refine OY_a (actY_of rfl ?_)
    | refine OY_d (actY_of rfl ?_)
    | refine OY_a (actY_pass rfl rfl ?_)
    | refine OY_d (actY_pass rfl rfl ?_)
    | refine OY_a (actY_take rfl rfl ?_)
    | refine OY_d (actY_take rfl rfl ?_))
  exact hEnd.out) (k : B) : A := h ⟨k⟩
section
variable {P : Program} {ops : Array Oper} {Q : Exit → (Nat → Value) → World → Prop} {rest : List Oper} {e : Nat → Value} {w : World} {d : Tmp} {ty : TypeId} {pos : String} {aft : Array Edge}
theorem OW_addU64 {x y : Operand} {t t' : TypeId} {a b : Int} (hx : ev e x = .int .u64 a) (hy : ev e y = .int .u64 b) (hb : 0 ≤ a + b ∧ a + b < 18446744073709551616) (h : OW P ops Q rest (upd e d (.int .u64 (a + b))) w) : OW P ops Q (⟨some d, .binOp .add t x y t', ty, pos, aft, none⟩ :: rest) e w :=
  OW_add hx hy (by rw [show IntKind.u64.wrap (a + b) = a + b by have := wrap_u64_lt (a + b).toNat (by omega); rwa [show (((a + b).toNat : Nat) : Int) = a + b by omega] at this]; exact h)
theorem OW_convIn {x : Operand} {t t' : TypeId} {s : TypeDesc} {k' : IntKind} {a : Int} (hs : P.underlying t = some s) (ht : P.underlying t' = some (.int .i64)) (hx : ev e x = .int k' a) (hb : -9223372036854775808 ≤ a ∧ a ≤ 9223372036854775807) (h : OW P ops Q rest (upd e d (.int .i64 a)) w) : OW P ops Q (⟨some d, .convert t t' x, ty, pos, aft, none⟩ :: rest) e w :=
  OW_convInt hs ht hx (by rw [wrap64_in hb]; exact h)
theorem OW_convU64 {x : Operand} {t t' : TypeId} {s : TypeDesc} {k' : IntKind} {a : Int} (hs : P.underlying t = some s) (ht : P.underlying t' = some (.int .u64)) (hx : ev e x = .int k' a) (hb : 0 ≤ a ∧ a < 18446744073709551616) (h : OW P ops Q rest (upd e d (.int .u64 a)) w) : OW P ops Q (⟨some d, .convert t t' x, ty, pos, aft, none⟩ :: rest) e w :=
  OW_convInt hs ht hx (by rw [show IntKind.u64.wrap a = a by have := wrap_u64_lt a.toNat (by omega); rwa [show ((a.toNat : Nat) : Int) = a by omega] at this]; exact h)
end
theorem ld4 {b : List UInt8} (h : 4 ≤ b.length) : ldV b 0 4 = loadL (b.take 4) ∧ ldB b 0 4 = true := by
  simp [ldV, ldB, ldL, h]
theorem ld4no {b : List UInt8} (h : ¬ 4 ≤ b.length) : ldV b 0 4 = 0 ∧ ldB b 0 4 = false := by
  simp [ldV, ldB, ldL, h]
theorem loadL4_lt (b : List UInt8) : loadL (b.take 4) < 4294967296 := by
  have := loadL_lt (b.take 4)
  have h2 : 256 ^ (b.take 4).length ≤ 256 ^ 4 := Nat.pow_le_pow_right (by decide) (by rw [List.length_take]; omega)
  omega
set_option maxHeartbeats 8000000 in
theorem sealed_any (w : World) (A : Option Addr) (c : Nat) (b : List UInt8) (hb : Bs w A b) (hl : b.length ≤ 200000) :
    Calls Try.prog 68 #[.slice A b.length c] w (RetBs 5 w (sealB b)) := by
  have hol := shaL_length b
  have hs := fun c => shaSum_any w A c b hb (by omega)
  obtain ⟨out, ho⟩ : ∃ out, shaL b = out := ⟨_, rfl⟩
  have hsb : sealB b = b ++ out.take 8 := by unfold sealB; rw [ho]
  rw [ho] at hol hs
  rw [hsb]
  refine calls_of_CW Try.func68 rfl (by simp [Try.ntmps68]) ?_
  rw [Try.ntmps68]
  refine go_Frm1 (k := ?_)
  refine OW_callV Try.func78 (by kernel_rfl) rfl (hs c) rfl ?_
  intro w1 hx1
  refine go_Frm1 (k := ?_)
  refine OW_allocA s_agg_Tag ?_
  intro w2 g3 hb3 hg3 hl3 hx2
  have holen : (out.map bv).length = 32 := by rw [List.length_map, hol]
  refine go_Frm1 (k := ?_)
  refine OW_storeA s_agg_Tag rfl (out.map bv) rfl holen hb3 rfl (bv_one _) ?_
  intro w3 hb3' hgr
  have hx03 : Ext w w3 := below_only (hx1.trans' hx2) hgr (by have := hx1.size; omega) (hx1.trans' hx2).size
  refine go_Frm1 (k := ?_)
  refine OW_sliceA s_und_Tag one_u8 rfl rfl ⟨_, rfl⟩ 0 8 rfl rfl (by decide) (by decide) (by decide) ?_
  refine go_Frm1 (k := ?_)
  refine OW_lit [.slice A b.length c, .slice (some ⟨g3, 0, none⟩) 8 32] und_bytess info_bytes rfl rfl (by simp [Value.oneCell']) (by decide) ?_
  intro w4 g4 hb4 hg4 hx4
  have hb8 : Bs w4 (some ⟨g3, 0, none⟩) (out.take 8) := by
    have := (bs_row (hb3'.ext hx4)).cut 32 0 8 (by omega)
    simpa [cutA, add0] using this
  have hcat := cat_lit2 (c := 2) hb4 (hb.ext (hx03.trans' hx4)) rfl hb8 (by rw [List.length_take]; omega) (by rw [List.length_take]; omega)
  refine go_Frm1 (k := ?_)
  refine OW_callBs Try.func69 (by kernel_rfl) rfl hcat rfl ?_
  intro w5 A5 c5 hf5
  refine go_Frm1 (k := ?_)
  exact bodyE_ret1 rfl (.slice A5 _ c5) rfl ⟨A5, c5, rfl, hf5.back (hx03.trans' hx4)⟩
set_option maxHeartbeats 8000000 in
theorem fseal_any (w : World) (A : Option Addr) (c : Nat) (b : List UInt8) (hb : Bs w A b) (hl : b.length ≤ 65536) :
    Calls Try.prog 46 #[.slice A b.length c] w (fun en w' => ∃ A' c', en = .returned (.tuple #[.slice A' (frameB b).length c', .int .i64 0]) ∧ Fresh 5 w w' A' c' (frameB b)) := by
  have hp4 := putL_length b.length 4
  have hsd := fun w1 A1 c1 (h1 : Bs w1 A1 (putL b.length 4 ++ b)) => sealed_any w1 A1 c1 (putL b.length 4 ++ b) h1 (by rw [List.length_append]; omega)
  rw [show sealB (putL b.length 4 ++ b) = frameB b from rfl] at hsd
  refine calls_of_CW Try.func46 rfl (by simp [Try.ntmps46]) ?_
  rw [Try.ntmps46]
  refine go_Frm1 (k := ?_)
  rw [decide_eq_false (by omega)]
  refine go_Frm1 (k := ?_)
  rw [wrap_u32_lt _ (by omega)]
  refine OW_callBs Try.func70 (by kernel_rfl) rfl (put32_any w b.length (by omega)) rfl ?_
  intro w1 A1 c1 hf1
  refine go_Frm1 (k := ?_)
  refine OW_lit [.slice A1 (putL b.length 4).length c1, .slice A b.length c] und_bytess info_bytes rfl rfl (by simp [Value.oneCell']) (by decide) ?_
  intro w2 g2 hb2 hg2 hx2
  have hcat := cat_lit2 (c := 2) hb2 (hf1.bs.ext hx2) rfl (hb.ext (hf1.ext.trans' hx2)) rfl (by omega)
  refine go_Frm1 (k := ?_)
  refine OW_callBs Try.func69 (by kernel_rfl) rfl hcat rfl ?_
  intro w3 A3 c3 hf3
  refine go_Frm1 (k := ?_)
  refine OW_callBs Try.func68 (by kernel_rfl) rfl (hsd w3 A3 c3 hf3.bs) rfl ?_
  intro w4 A4 c4 hf4
  generalize frameB b = F at *
  refine go_Frm1 (k := ?_)
  exact bodyE_ret2 rfl (.slice A4 F.length c4) (.int .i64 0) rfl rfl ⟨A4, c4, rfl, hf4.back ((hf1.ext.trans' hx2).trans' hf3.ext)⟩
set_option maxHeartbeats 8000000 in
theorem fsealLong_any (w : World) (A : Option Addr) (c : Nat) (n : Nat) (hl : 65536 < n) :
    Calls Try.prog 46 #[.slice A n c] w (RetV w (.tuple #[.slice none 0 0, .int .i64 3])) := by
  refine calls_of_CW Try.func46 rfl (by simp [Try.ntmps46]) ?_
  rw [Try.ntmps46]
  refine go_Frm1 (k := ?_)
  rw [decide_eq_true (by omega)]
  refine go_Frm1 (k := ?_)
  exact bodyE_ret2 rfl (.slice none 0 0) (.int .i64 3) rfl rfl ⟨rfl, Ext.rfl' w⟩
set_option maxHeartbeats 8000000 in
theorem refSeal_any (w : World) (A : Option Addr) (c : Nat) (b : List UInt8) (hb : Bs w A b) (hl : b.length ≤ 70000) :
    Calls Try.prog 76 #[.slice A b.length c] w (RetBs 5 w (frameB b)) := by
  have hp4 := putL_length b.length 4
  obtain ⟨a, ha⟩ : ∃ a, putL b.length 4 ++ b = a := ⟨_, rfl⟩
  have hal : a.length = b.length + 4 := by rw [← ha, List.length_append, hp4]; omega
  have hF : frameB b = a ++ (shaL a).take 8 := by unfold frameB sealB; rw [ha]
  have hol := shaL_length a
  have hs := fun w A c (hb : Bs w A a) => refSum_any w A c a hb (by omega)
  obtain ⟨out, ho⟩ : ∃ out, shaL a = out := ⟨_, rfl⟩
  rw [ho] at hol hs hF
  rw [hF]
  clear hF ho
  refine calls_of_CW Try.func76 rfl (by simp [Try.ntmps76]) ?_
  rw [Try.ntmps76]
  refine go_Frm1 (k := ?_)
  refine OW_callBs Try.func82 (by kernel_rfl) rfl (refPut_any w b.length 4 4 rfl (by decide) (by omega)) rfl ?_
  intro w1 A1 c1 hf1
  have hct := fun c2 => refCat_any w1 A1 A (putL b.length 4) b c1 c2 hf1.bs (hb.ext hf1.ext) (by omega)
  rw [ha] at hct
  refine go_Frm1 (k := ?_)
  refine OW_callBs Try.func74 (by kernel_rfl) rfl (hct c) rfl ?_
  intro w2 A2 c2 hf2
  refine go_Frm1 (k := ?_)
  refine OW_callV Try.func84 (by kernel_rfl) rfl (hs w2 A2 c2 hf2.bs) rfl ?_
  intro w3 hx3
  refine go_Frm1 (k := ?_)
  refine OW_callBs Try.func83 (by kernel_rfl) rfl (refBytes_any w3 out hol) rfl ?_
  intro w4 A4 c4 hf4
  have hcp := hf4.cap
  refine go_Frm1 (k := ?_)
  refine OW_sliceBs und_bytes one_u8 hf4.bs rfl hcp rfl rfl ⟨_, rfl⟩ 0 8 rfl rfl (by omega) ?_
  intro A5 hb5 hl5
  rw [show (out.drop 0).take (8 - 0) = out.take 8 from rfl] at hb5 hl5
  rw [← hl5]
  refine go_Frm1 (k := ?_)
  refine OW_callBs Try.func74 (by kernel_rfl) rfl (refCat_any w4 A2 A5 a (out.take 8) c2 _ ((hf2.bs.ext hx3).ext hf4.ext) hb5 (by omega)) rfl ?_
  intro w6 A6 c6 hf6
  refine go_Frm1 (k := ?_)
  exact bodyE_ret1 rfl (.slice A6 _ c6) rfl ⟨A6, c6, rfl, hf6.back (((hf1.ext.trans' hf2.ext).trans' hx3).trans' hf4.ext)⟩
/-- What Next tells. -/
def NextP (w : World) (b : List UInt8) : Ending → World → Prop := fun en w' => (nextL b = none ∧ en = .returned (.tuple #[.slice none 0 0, .int .i64 0, .int .i64 50]) ∧ Ext w w') ∨ (∃ p A c, nextL b = some p ∧ en = .returned (.tuple #[.slice A p.length c, .int .i64 ((p.length : Int) + 12), .int .i64 0]) ∧ Fresh 5 w w' A c p)
theorem bodyE_ret3 {P : Program} {fn : Func} {R : Ending → World → Prop} {e : Nat → Value} {w : World} {t u x : Tmp} (hr : fn.results = #[.tmp t, .tmp u, .tmp x]) (v v' v'' : Value) (hv : e t = v) (hv' : e u = v') (hv'' : e x = v'') (hR : R (.returned (.tuple #[v, v', v''])) w) : bodyE P fn R .ret e w := by
  unfold bodyE
  refine ⟨_, fun tmps ht => ?_, hR⟩
  subst hv; subst hv'; subst hv''
  rw [← ht, ← ht, ← ht]
  simp [results, hr]
set_option maxHeartbeats 8000000 in
theorem frameNext_any (w : World) (A : Option Addr) (c : Nat) (b : List UInt8) (hb : Bs w A b) (hc : b.length ≤ c) (hl : b.length ≤ 100000) :
    Calls Try.prog 72 #[.slice A b.length c] w (NextP w b) := by
  have hT := load32_any w A b c 0 hb hc (by omega) (by decide)
  have hlt := loadL4_lt b
  have hno : ¬ (4 ≤ b.length ∧ loadL (b.take 4) ≤ 65536 ∧ loadL (b.take 4) + 12 ≤ b.length ∧ sealB (b.take (4 + loadL (b.take 4))) = b.take (loadL (b.take 4) + 12)) → nextL b = none := fun h => by unfold nextL; rw [if_neg h]
  have hyes : (4 ≤ b.length ∧ loadL (b.take 4) ≤ 65536 ∧ loadL (b.take 4) + 12 ≤ b.length ∧ sealB (b.take (4 + loadL (b.take 4))) = b.take (loadL (b.take 4) + 12)) → nextL b = some ((b.drop 4).take (loadL (b.take 4))) := fun h => by unfold nextL; rw [if_pos h]
  refine calls_of_CW Try.func72 rfl (by simp [Try.ntmps72]) ?_
  rw [Try.ntmps72]
  refine go_Frm1 (k := ?_)
  refine OW_callV Try.func80 (by kernel_rfl) rfl hT rfl ?_
  intro w1 hx1
  by_cases h4 : 4 ≤ b.length
  rotate_left 1
  · rw [(ld4no h4).1, (ld4no h4).2]
    refine go_Frm1 (k := ?_)
    obtain ⟨C, hC⟩ : ∃ C : World → Prop, C = fun v => Ext w1 v := ⟨_, rfl⟩
    refine CW_tree2 [] (.p 0 (.p 1 (.p 2 (.p 3 (.p 4 (.p 5 (.p 6 (.p 7 (.p 8 (.p 9 (.p 10 (.p 11 (.p 12 (.p 13 (.p 14 (.p 15 (.p 16 (.p 18 (.p 19 (.p 20 (.p 21 (.d 17 (.d 22 (.p 23 (.p 24 .done))))))))))))))))))))))))) (C) (by kernel_rfl) (by kernel_rfl) (by kernel_rfl) ?_ ?_
    · exact inE hC
    intro w2 hx2 h_C
    refine oy_Frm1 (k := ?_)
    refine go_Frm1 (k := ?_)
    exact bodyE_ret3 rfl (.slice none 0 0) (.int .i64 0) (.int .i64 50) rfl rfl rfl (.inl ⟨hno (fun h => h4 h.1), rfl, hx1.trans' hx2⟩)
  rw [(ld4 h4).1, (ld4 h4).2]
  obtain ⟨n, hn⟩ : ∃ n, loadL (b.take 4) = n := ⟨_, rfl⟩
  rw [hn] at hno hyes hlt ⊢
  by_cases h5 : n ≤ 65536
  rotate_left 1
  · refine go_Frm1 (k := ?_)
    obtain ⟨C, hC⟩ : ∃ C : World → Prop, C = fun v => Ext w1 v := ⟨_, rfl⟩
    refine CW_tree2 [] (.p 0 (.p 1 (.p 2 (.p 3 (.p 4 (.p 5 (.p 6 (.p 7 (.p 8 (.p 9 (.p 10 (.p 11 (.p 12 (.p 13 (.p 14 (.p 15 (.p 16 (.p 18 (.p 19 (.p 20 (.p 21 (.d 17 (.d 22 (.p 23 (.p 24 .done))))))))))))))))))))))))) (C) (by kernel_rfl) (by kernel_rfl) (by kernel_rfl) ?_ ?_
    · exact inE hC
    intro w2 hx2 h_C
    refine oy_Frm1 (k := ?_)
    rw [decide_eq_true (show (65536 : Int) < n by omega)]
    refine oy_Frm1 (k := ?_)
    refine go_Frm1 (k := ?_)
    exact bodyE_ret3 rfl (.slice none 0 0) (.int .i64 0) (.int .i64 50) rfl rfl rfl (.inl ⟨hno (fun h => h5 h.2.1), rfl, hx1.trans' hx2⟩)
  by_cases h6 : n + 12 ≤ b.length
  rotate_left 1
  · refine go_Frm1 (k := ?_)
    obtain ⟨C, hC⟩ : ∃ C : World → Prop, C = fun v => Ext w1 v := ⟨_, rfl⟩
    refine CW_tree2 [] (.p 0 (.p 1 (.p 2 (.p 3 (.p 4 (.p 5 (.p 6 (.p 7 (.p 8 (.p 9 (.p 10 (.p 11 (.p 12 (.p 13 (.p 14 (.p 15 (.p 16 (.p 18 (.p 19 (.p 20 (.p 21 (.d 17 (.d 22 (.p 23 (.p 24 .done))))))))))))))))))))))))) (C) (by kernel_rfl) (by kernel_rfl) (by kernel_rfl) ?_ ?_
    · exact inE hC
    intro w2 hx2 h_C
    refine oy_Frm1 (k := ?_)
    rw [decide_eq_false (show ¬ (65536 : Int) < n by omega)]
    refine oy_Frm1 (k := ?_)
    rw [decide_eq_true (show (b.length : Int) < 4 + n + 8 by omega)]
    refine oy_Frm1 (k := ?_)
    refine go_Frm1 (k := ?_)
    exact bodyE_ret3 rfl (.slice none 0 0) (.int .i64 0) (.int .i64 50) rfl rfl rfl (.inl ⟨hno (fun h => h6 h.2.2.1), rfl, hx1.trans' hx2⟩)
  have hcut : ∀ m, m ≤ b.length → Bs w (cutA A c 0) (b.take m) := fun m hm => hb.cut c 0 m (by omega)
  have hA0 : cutA A c 0 = A := by unfold cutA; split; rfl; cases A <;> rfl
  rw [hA0] at hcut
  have hl4 : (b.take (4 + n)).length = 4 + n := by rw [List.length_take]; omega
  have hl12 : (b.take (n + 12)).length = n + 12 := by rw [List.length_take]; omega
  have hsl := sealB_length (b.take (4 + n))
  refine go_Frm1 (k := ?_)
  obtain ⟨C, hC⟩ : ∃ C : World → Prop, C = fun v => Ext w1 v := ⟨_, rfl⟩
  refine CW_tree2 [] (.p 0 (.p 1 (.p 2 (.p 3 (.p 4 (.p 5 (.p 6 (.p 7 (.p 8 (.p 9 (.p 10 (.p 11 (.p 12 (.p 13 (.p 14 (.p 15 (.p 16 (.p 18 (.p 19 (.p 20 (.p 21 (.d 17 (.d 22 (.p 23 (.p 24 .done))))))))))))))))))))))))) (C) (by kernel_rfl) (by kernel_rfl) (by kernel_rfl) ?_ ?_
  · exact inE hC
  intro w2 hx2 h_C
  refine oy_Frm1 (k := ?_)
  rw [decide_eq_false (show ¬ (65536 : Int) < n by omega)]
  refine oy_Frm1 (k := ?_)
  rw [decide_eq_false (show ¬ (b.length : Int) < 4 + n + 8 by omega)]
  refine oy_Frm1 (k := ?_)
  apply OY_ptake _ rfl rfl
  · intro wd
    refine OW_slice (lv := 0) (hv := ((4 + n : Nat) : Int)) (mv := c) und_bytes one_u8 rfl rfl ⟨_, by rw [show ((4 + n : Nat) : Int) = 4 + (n : Int) by omega]; rfl⟩ rfl (fun h => by cases h) (by omega) ?_
    refine OW_nil ?_
    exact stay_mk _ _ _ _
  refine oy_Frm1 (k := ?_)
  apply OY_ptake _ rfl rfl
  · intro wd
    refine OW_slice (lv := 0) (hv := ((n + 12 : Nat) : Int)) (mv := c) und_bytes one_u8 rfl rfl ⟨_, by rw [show ((n + 12 : Nat) : Int) = 4 + (n : Int) + 8 by omega]; rfl⟩ rfl (fun h => by cases h) (by omega) ?_
    refine OW_nil ?_
    exact stay_mk _ _ _ _
  rw [Int.toNat_natCast, Int.toNat_natCast, Int.toNat_natCast, Int.toNat_zero, hA0, Nat.sub_zero, Nat.sub_zero, Nat.sub_zero]
  refine oy_Frm1 (k := ?_)
  have hsd := sealed_any w2 A c (b.take (4 + n)) ((hcut _ (by omega)).ext (hx1.trans' hx2)) (by omega)
  rw [hl4] at hsd
  refine OW_callBs Try.func68 (by kernel_rfl) rfl hsd rfl ?_
  intro w3 A3 c3 hf3
  first | refine OW_nil (goY_mkE hC (hx2.trans' hf3.ext) ?_) | refine OW_nil (goY_dropE hC (hx2.trans' hf3.ext) ?_)
  refine oy_Frm1 (k := ?_)
  have hsm := same_any w3 A3 A (sealB (b.take (4 + n))) (b.take (n + 12)) c3 c hf3.bs ((hcut _ (by omega)).ext ((hx1.trans' hx2).trans' hf3.ext)) hf3.cap (by omega)
  rw [hl12] at hsm
  refine OW_callV Try.func38 (by kernel_rfl) rfl hsm rfl ?_
  intro w4 hx4
  have hx04 := ((hx1.trans' hx2).trans' hf3.ext).trans' hx4
  by_cases h7 : sealB (b.take (4 + n)) = b.take (n + 12)
  rotate_left 1
  · rw [beq_eq_false_iff_ne.2 h7]
    first | refine OW_nil (goY_mkE hC ((hx2.trans' hf3.ext).trans' hx4) ?_) | refine OW_nil (goY_dropE hC ((hx2.trans' hf3.ext).trans' hx4) ?_)
    refine oy_Frm1 (k := ?_)
    refine go_Frm1 (k := ?_)
    exact bodyE_ret3 rfl (.slice none 0 0) (.int .i64 0) (.int .i64 50) rfl rfl rfl (.inl ⟨hno (fun h => h7 h.2.2.2), rfl, hx04⟩)
  rw [beq_iff_eq.2 h7]
  first | refine OW_nil (goY_mkE hC ((hx2.trans' hf3.ext).trans' hx4) ?_) | refine OW_nil (goY_dropE hC ((hx2.trans' hf3.ext).trans' hx4) ?_)
  refine oy_Frm1 (k := ?_)
  refine go_Frm1 (k := ?_)
  refine OW_sliceBs und_bytes one_u8 (hb.ext hx04) rfl hc rfl ⟨_, rfl⟩ ⟨_, rfl⟩ 4 (4 + n) rfl (by omega) (by omega) ?_
  intro A5 hb5 hl5
  rw [show 4 + n - 4 = n by omega] at hb5 hl5 ⊢
  have hnx := hyes ⟨h4, h5, h6, h7⟩
  obtain ⟨p, hp⟩ : ∃ p, (b.drop 4).take n = p := ⟨_, rfl⟩
  rw [hp] at hb5 hl5 hnx
  refine go_Frm1 (k := ?_)
  refine OW_lit [.slice A5 n (c - 4)] und_bytess info_bytes rfl rfl (by simp [Value.oneCell']) (by decide) ?_
  intro w6 g6 hb6 hg6 hx6
  have hcat := cat_lit1 (c := 1) hb6 (hb5.ext hx6) hl5 (by omega)
  refine go_Frm1 (k := ?_)
  refine OW_callBs Try.func69 (by kernel_rfl) rfl hcat rfl ?_
  intro w7 A7 c7 hf7
  refine go_Frm1 (k := ?_)
  exact bodyE_ret3 rfl (.slice A7 p.length c7) (.int .i64 (4 + (n : Int) + 8)) (.int .i64 0) rfl rfl rfl (.inr ⟨p, A7, c7, hnx, by rw [show (4 + (n : Int) + 8) = (p.length : Int) + 12 by omega], hf7.back (hx04.trans' hx6)⟩)
end Go.Proofs.Ytnfeibbnjdegfaa

/- A range over a function whose iterator makes what it hands on, and leans on blocks of its own: which blocks a round may change is told by a set that goes along. No program in sight. -/
namespace Go.Proofs.Ytnfeibbnjdegfaa
open Go Go.RowKit
set_option linter.unusedVariables false
/-- What an iterator promises: U: the blocks that it leans on from the beginning; Ok: what it knows of what it hands on; G: the blocks that it gives away with it. -/
structure Iter3 {α : Type} (P : Program) (gf : FuncId) (lb : List Value) (encs : α → List Value) (Ok : (Nat → Prop) → List α → α → World → Prop) (G : α → Nat → Prop) (U : Nat → Prop) (Pre : World → Prop) (Sx Sp : List α → Prop) : Prop where
  ok : ∀ S pre x A B D st, Ok S pre x A → A.heap[D]? = some (.loop st) → Keeps A B (· = D) → Ok S pre x B
  okS : ∀ S S' pre x A, (∀ k, S k → S' k) → Ok S' pre x A → Ok S pre x A
  okG : ∀ S pre x A k, Ok S pre x A → G x k → k < A.heap.size ∧ ∃ cs T fz, A.heap[k]? = some (.cells cs T fz)
  run : ∀ (l : Nat) (J Jx : (Nat → Prop) → List α → World → Prop) (S0 : Nat → Prop) (W : World), Pre W → (∀ k, U k → ¬ S0 k) → (∀ S s A, J S s A → ∀ k, S k → k < A.heap.size) →
    (∀ S s A B, J S s A → Ext A B → J S s B) → (∀ S s A B, Jx S s A → Ext A B → Jx S s B) →
    (∀ S pre x W1, J S pre W1 → Ok S pre x W1 → YieldW P l (encs x).toArray W1 fun en W' => Keeps W1 W' (fun k => S k ∨ G x k) ∧ ∃ S', (∀ k, S' k → S k ∨ W1.heap.size ≤ k ∨ G x k) ∧ ((en = .returned (.bool true) ∧ J S' (pre ++ [x]) W') ∨ (en = .returned (.bool false) ∧ Jx S' (pre ++ [x]) W'))) →
    J S0 [] W → Calls P gf ((.func (.yield l) #[] #[] :: lb).toArray) W fun en W' => ∃ v, en = .returned v ∧ ∃ S, (∃ xs, Sx xs ∧ J S xs W') ∨ (∃ pre, Sp pre ∧ Jx S pre W')
/-- How a round may end. -/
def roundQ3 {α : Type} (S Gx : Nat → Prop) (I : (Nat → Prop) → List α → World → Prop) (Ix : Code → (Nat → Prop) → List α → World → Prop) (xs : List α) (W : World) : Exit → (Nat → Value) → World → Prop
  | .normal, _, W' => Keeps W W' (fun k => S k ∨ Gx k) ∧ ∃ S', (∀ k, S' k → S k ∨ W.heap.size ≤ k ∨ Gx k) ∧ I S' xs W'
  | .ret, _, W' => Keeps W W' (fun k => S k ∨ Gx k) ∧ ∃ S', (∀ k, S' k → S k ∨ W.heap.size ≤ k ∨ Gx k) ∧ Ix .ret S' xs W'
  | .exit id, _, W' => Keeps W W' (fun k => S k ∨ Gx k) ∧ ∃ S', (∀ k, S' k → S k ∨ W.heap.size ≤ k ∨ Gx k) ∧ Ix (.exit id) S' xs W'
  | _, _, _ => False
theorem FW_hide {rd : Option Nat} {ds : List Deferred} {P : Program} {n : Nat} {c : Code} {next : (Nat → Value) → World → Prop} {Q : Exit → (Nat → Value) → World → Prop} {e : Nat → Value} {w : World} (h : ∀ K, K = next → FW rd ds P n c (thenE K Q) e w) : FW rd ds P n c (thenE next Q) e w := h _ rfl
theorem Rd.noloop {A : World} {Ad : Option Addr} {cs : List Value} {D : Nat} {st : Loop} (h : Rd A Ad cs) (hn : cs ≠ []) (hl : A.heap[D]? = some (.loop st)) : ∀ ad, Ad = some ad → ad.block ≠ D := by
  intro ad ha hD
  obtain ⟨ad', ha', hc⟩ := h.at_ (j := 0) (List.length_pos_iff.2 hn)
  rw [ha] at ha'
  cases ha'
  have hb : (ad.add 0).block = D := by rw [addr_add_block]; exact hD
  unfold World.cell? at hc
  rw [hb, hl] at hc
  cases hc
section
variable {P : Program} {fn : Func} {R : Ending → World → Prop} {e : Nat → Value} {w : World}
theorem LW_range3 {α : Type} {id : Nat} {g : Operand} {ps : List Tmp} {assign body : Code} {rest : List Code} {gf : FuncId} {fnI : Func} {cI : Code} {lb : List Value} {encs : α → List Value} {Ok : (Nat → Prop) → List α → α → World → Prop} {G : α → Nat → Prop} {U : Nat → Prop} {Pre : World → Prop} {Sx Sp : List α → Prop}
    (hit : Iter3 P gf lb encs Ok G U Pre Sx Sp) (hf : P.funcs[gf]? = some fnI) (hn : (fnI.name == "runtime.NumGoroutine") = false) (hb : fnI.body = some cI) (hg : ev e g = .func (.func gf) #[] lb.toArray)
    (hps : ∀ x, (encs x).length = ps.length) (hpn : ∀ p ∈ ps, p < fn.ntmps) (S0 : Nat → Prop) (hU : ∀ k, U k → k < w.heap.size ∧ ¬ S0 k) (hS0 : ∀ k, S0 k → k < w.heap.size) (hPre : ∀ W, Ext w W → Pre W)
    (I : (Nat → Prop) → List α → World → Prop) (Ix : Code → (Nat → Prop) → List α → World → Prop) (hIb : ∀ S s A, I S s A → ∀ k, S k → k < A.heap.size)
    (hI : ∀ S s A B, I S s A → (∀ k, S k → k ≠ w.heap.size ∧ k ≠ w.heap.size + 1) → Keeps A B (fun k => k = w.heap.size ∨ k = w.heap.size + 1) → I S s B) (hIx : ∀ c S s A B, Ix c S s A → (∀ k, S k → k ≠ w.heap.size ∧ k ≠ w.heap.size + 1) → Keeps A B (fun k => k = w.heap.size ∨ k = w.heap.size + 1) → Ix c S s B)
    (h0 : I S0 [] w) (e₁ : α → Nat → Value)
    (hassign : ∀ x l W, FW (some l) [] P fn.ntmps assign (fun x' e' w' => x' = .normal ∧ e' = e₁ x ∧ w' = W) (binds e ps (encs x)) W)
    (hbody : ∀ l S pre x W, w.heap.size + 2 ≤ W.heap.size → I S pre W → (∀ k, S k → k ≠ w.heap.size ∧ k ≠ w.heap.size + 1) → Ok S pre x W → (∀ k, G x k → k ≠ w.heap.size ∧ k ≠ w.heap.size + 1 ∧ k < W.heap.size) → FW (some l) [] P fn.ntmps body (roundQ3 S (G x) I Ix (pre ++ [x]) W) (e₁ x) W)
    (hdone : ∀ S xs W, Sx xs → I S xs W → (∀ k, S k → k ≠ w.heap.size ∧ k ≠ w.heap.size + 1) → W.heap[w.heap.size]? = some (.deferred (some [])) → LW P fn R [markD w.heap.size] rest e W)
    (hstop : ∀ c S pre W, Sp pre → Ix c S pre W → (∀ k, S k → k ≠ w.heap.size ∧ k ≠ w.heap.size + 1) → W.heap[w.heap.size]? = some (.deferred (some [])) → c = .exit id ∧ LW P fn R [markD w.heap.size] rest e W) :
    LW P fn R [] (.block id (.rangeFunc g ps.toArray assign body) :: rest) e w := by
  unfold LW
  intro m a hs
  refine wpIn_block (wpIn_rangeFunc ?_)
  intro fnn hfn
  rw [fen_round]
  obtain ⟨D, hD⟩ : ∃ D, w.heap.size = D := ⟨_, rfl⟩
  rw [hD] at hU hS0 hI hIx hbody hdone hstop
  obtain ⟨rec, hrec⟩ : ∃ rec : LoopState → Option Code → Loop, rec = fun st pe => { state := st, pending := pe, fn := fnn, tmps := a.tmps, params := ps.toArray, assign, body, defers := D } := ⟨_, rfl⟩
  obtain ⟨W1, hW1⟩ : ∃ W1, (w.alloc (.deferred (some []))).alloc (.loop (rec .ready none)) = W1 := ⟨_, rfl⟩
  have hx1 : Ext w W1 := by rw [← hW1]; exact (Ext.alloc' w _).trans' (Ext.alloc' _ _)
  have hK1 : W1.heap[D]? = some (.deferred (some [])) := by
    rw [← hW1, (Ext.alloc' (w.alloc (.deferred (some []))) (.loop (rec .ready none))).block D (by simp; omega)]
    have := heap_alloc_new w (.deferred (some []))
    rwa [hD] at this
  have hL1 : W1.heap[D + 1]? = some (.loop (rec .ready none)) := by
    rw [← hW1]
    have := heap_alloc_new (w.alloc (.deferred (some []))) (.loop (rec .ready none))
    rw [World.size_alloc, hD] at this
    exact this
  have heg : ∀ args w, (callFunc gf args).run P w = .ok (.enter gf args) w := enters_of hf hn hb
  refine ⟨D + 1, [markD D], W1, { target := .fn (.func gf) lb.toArray, args := #[.func (.yield (D + 1)) #[] #[]] }, W1, gf, #[.func (.yield (D + 1)) #[] #[]] ++ lb.toArray, W1, ?_, ?_, fun f _ => fen_fn none f, ?_, fun h => (by rw [fen_depth] at h; cases h), ?_⟩
  · have := run_enterLoop_outer (P := P) (w := w) fnn a.tmps ps.toArray assign body
    rw [hD] at this
    rw [← hW1, hrec]
    exact this
  · rw [hs.ev]
    simp only [resolve, hg]
    simp [go_sem]
    rfl
  · simp [invoke, go_sem, heg]
  refine calls_fen none _ ?_
  have hout : ∀ {A B : World} {k : Nat}, Ext A B → Keeps A B (fun k => k = D ∨ k = D + 1) := fun h => Keeps.of_ext h _
  have hcall := hit.run (D + 1)
    (fun S' pre W => ∃ S, (S' = fun k => S k ∨ k = D + 1) ∧ (∀ k, S k → k ≠ D ∧ k ≠ D + 1) ∧ I S pre W ∧ W.heap[D + 1]? = some (.loop (rec .ready none)) ∧ W.heap[D]? = some (.deferred (some [])))
    (fun S' pre W => ∃ S c, (S' = fun k => S k ∨ k = D + 1) ∧ (∀ k, S k → k ≠ D ∧ k ≠ D + 1) ∧ Ix c S pre W ∧ W.heap[D + 1]? = some (.loop (rec .done (some c))) ∧ W.heap[D]? = some (.deferred (some [])))
    (fun k => S0 k ∨ k = D + 1) W1 (hPre W1 hx1) (fun k hk hh => by
      rcases hh with hh | hh
      · exact (hU k hk).2 hh
      · have := (hU k hk).1; omega)
    (fun S' s A ⟨S, hS', _, h1, h2, h3⟩ k hk => by
      subst hS'
      rcases hk with hk | hk
      · exact hIb S s A h1 k hk
      · subst hk; exact (Array.getElem?_eq_some_iff.1 h2).1)
    (fun S' s A B ⟨S, hS', hn, h1, h2, h3⟩ hk => ⟨S, hS', hn, hI S s A B h1 hn (Keeps.of_ext hk _), (hk.block _ (Array.getElem?_eq_some_iff.1 h2).1).trans h2, (hk.block _ (Array.getElem?_eq_some_iff.1 h3).1).trans h3⟩)
    (fun S' s A B ⟨S, c, hS', hn, h1, h2, h3⟩ hk => ⟨S, c, hS', hn, hIx c S s A B h1 hn (Keeps.of_ext hk _), (hk.block _ (Array.getElem?_eq_some_iff.1 h2).1).trans h2, (hk.block _ (Array.getElem?_eq_some_iff.1 h3).1).trans h3⟩)
    ?_ ⟨S0, rfl, fun k hk => by have := hS0 k hk; omega, hI S0 [] w W1 h0 (fun k hk => by have := hS0 k hk; omega) (Keeps.of_ext hx1 _), hL1, hK1⟩
  · rw [show (.func (.yield (D + 1)) #[] #[] :: lb).toArray = #[.func (.yield (D + 1)) #[] #[]] ++ lb.toArray by simp] at hcall
    refine hcall.mono ?_
    rintro en W2 ⟨v, rfl, S', ⟨xs, hSx, S, hS', hn, hi, hl, hk⟩ | ⟨pre, hSp, S, c, hS', hn, hi, hl, hk⟩⟩
    · have hr := run_endLoop (P := P) hl (by rw [hrec]; simp)
      refine ⟨none, _, by rw [hrec] at hr; exact hr, ?_⟩
      have := hdone S xs (W2.putObj (D + 1) (.loop { rec .ready none with state := .exhausted })) hSx (hI S xs W2 _ hi hn ((Keeps.put W2 (D + 1) _).mono fun k _ h => .inr h)) hn ?_
      · unfold LW at this
        rw [hrec] at this
        exact this m _ ⟨hs.size, by show [markD D] ++ a.defers = _; rw [hs.def_]; rfl, hs.at_⟩
      rw [World.putObj_heap_other (by omega)]; exact hk
    · have hr := run_endLoop (P := P) hl (by rw [hrec]; simp)
      refine ⟨some c, _, by rw [hrec] at hr; exact hr, ?_⟩
      obtain ⟨rfl, hw⟩ := hstop c S pre (W2.putObj (D + 1) (.loop { rec .done (some c) with state := .exhausted })) hSp (hIx c S pre W2 _ hi hn ((Keeps.put W2 (D + 1) _).mono fun k _ h => .inr h)) hn (by rw [World.putObj_heap_other (by omega)]; exact hk)
      rw [hrec] at hw
      refine wpIn_exit ?_
      simp only [Exit.inBlock, if_true]
      unfold LW at hw
      refine hw m _ ⟨?_, ?_, ?_⟩
      · exact hs.size
      · show [markD D] ++ a.defers = _; rw [hs.def_]; rfl
      · exact hs.at_
  · rintro S' pre x W ⟨S, hS', hn, hi, hl, hk⟩ hok
    have hlt := (Array.getElem?_eq_some_iff.1 hl).1
    have hy := run_yield (P := P) (args := (encs x).toArray) hl (by rw [hrec]; simpa using hps x)
    rw [hrec] at hy
    refine ⟨fnn, _, assign, body, hy, fun m2 => roundIn_of_wpIn trivial ?_⟩
    have hst : StD fn.ntmps [] { tmps := (ps.toArray.zip (encs x).toArray).foldl (fun t (p, v) => t.setIfInBounds p v) a.tmps, defers := [] } (Proofs.Ytnfeibbnjdegfaa.binds e ps (encs x)) := by
      have := StD.binds ps (encs x) a.tmps e hpn ⟨hs.size, rfl, hs.at_⟩
      simpa using this
    refine wpIn_mono ((hassign x (D + 1) W).out m2 _ hst) ?_
    rintro x1 a1 w1 ⟨e1, hs1, rfl, rfl, rfl⟩
    refine ⟨_, run_beginRound hl (by rw [hrec]), ?_⟩
    have hk2 : Keeps w1 (w1.putObj (D + 1) (.loop { rec .ready none with state := .busy })) (· = D + 1) := Keeps.put _ _ _
    have hl2 : (w1.putObj (D + 1) (.loop { rec .ready none with state := .busy })).heap[D + 1]? = some (.loop { rec .ready none with state := .busy }) := World.putObj_heap_same hlt
    have hd2 : (w1.putObj (D + 1) (.loop { rec .ready none with state := .busy })).heap[D]? = some (.deferred (some [])) := by rw [World.putObj_heap_other (by omega)]; exact hk
    have hi2 := hI S pre w1 _ hi hn (hk2.mono fun k _ h => .inr h)
    have hGn : ∀ k, G x k → k ≠ D ∧ k ≠ D + 1 ∧ k < w1.heap.size := fun k hg => by
      obtain ⟨h1, cs, T, fz, h2⟩ := hit.okG S' pre x w1 k hok hg
      refine ⟨fun h => ?_, fun h => ?_, h1⟩
      · rw [h, hk] at h2; cases h2
      · rw [h, hl] at h2; cases h2
    have hok2 := hit.okS S S' pre x _ (fun k hk => by subst hS'; exact .inl hk) (hit.ok S' pre x w1 _ (D + 1) _ hok hl hk2)
    have hsz2 := hk2.size
    generalize w1.putObj (D + 1) (.loop { rec .ready none with state := .busy }) = W2 at *
    refine wpIn_mono ((hbody (D + 1) S pre x W2 (by omega) hi2 hn hok2 (fun k hg => ⟨(hGn k hg).1, (hGn k hg).2.1, Nat.lt_of_lt_of_le (hGn k hg).2.2 hsz2⟩)).out m2 a1 hs1) ?_
    have fin : ∀ (jump : Option Code) (W3 : World), Keeps W2 W3 (fun k => S k ∨ G x k) →
        (Instr.endRound (D + 1) jump).run P W3 = .ok (.bool jump.isNone) (W3.putObj (D + 1) (.loop (rec (if jump.isNone then .ready else .done) jump))) ∧
        (W3.putObj (D + 1) (.loop (rec (if jump.isNone then .ready else .done) jump))).heap[D + 1]? = some (.loop (rec (if jump.isNone then .ready else .done) jump)) ∧
        (W3.putObj (D + 1) (.loop (rec (if jump.isNone then .ready else .done) jump))).heap[D]? = some (.deferred (some [])) := fun jump W3 hk3 => by
      have hl3 : W3.heap[D + 1]? = some (.loop { rec .ready none with state := .busy }) := by rw [hk3.block _ (Array.getElem?_eq_some_iff.1 hl2).1 (fun h => by rcases h with h | h; exact (hn _ h).2 rfl; exact (hGn _ h).2.1 rfl)]; exact hl2
      have hd3 : W3.heap[D]? = some (.deferred (some [])) := by rw [hk3.block _ (Array.getElem?_eq_some_iff.1 hd2).1 (fun h => by rcases h with h | h; exact (hn _ h).1 rfl; exact (hGn _ h).1 rfl)]; exact hd2
      have := run_endRound (P := P) jump hl3
      rw [hrec] at this ⊢
      exact ⟨this, World.putObj_heap_same (Array.getElem?_eq_some_iff.1 hl3).1, by rw [World.putObj_heap_other (by omega)]; exact hd3⟩
    have hSn : ∀ S3 : Nat → Prop, (∀ k, S3 k → S k ∨ W2.heap.size ≤ k ∨ G x k) → ∀ k, S3 k → k ≠ D ∧ k ≠ D + 1 := fun S3 h3 k hk => by
      rcases h3 k hk with h | h | h
      · exact hn k h
      · have := (Array.getElem?_eq_some_iff.1 hl2).1; omega
      · exact ⟨(hGn k h).1, (hGn k h).2.1⟩
    have hSg : ∀ S3 : Nat → Prop, (∀ k, S3 k → S k ∨ W2.heap.size ≤ k ∨ G x k) → ∀ k, (fun k => S3 k ∨ k = D + 1) k → S' k ∨ w1.heap.size ≤ k ∨ G x k := fun S3 h3 k hk => by
      subst hS'
      rcases hk with hk | hk
      · rcases h3 k hk with h | h | h
        · exact .inl (.inl h)
        · exact .inr (.inl (by omega))
        · exact .inr (.inr h)
      · exact .inl (.inr hk)
    have hKK : ∀ (jump : Option Code) (W3 : World), Keeps W2 W3 (fun k => S k ∨ G x k) → Keeps w1 (W3.putObj (D + 1) (.loop (rec (if jump.isNone then .ready else .done) jump))) (fun k => S' k ∨ G x k) := fun jump W3 hk3 => by
      subst hS'
      exact (hk2.mono fun k _ h => .inl (.inr h)).trans' ((hk3.mono fun k _ h => h.imp .inl fun h => h).trans' ((Keeps.put W3 (D + 1) _).mono fun k _ h => .inl (.inr h)))
    rintro x3 a3 W3 ⟨e3, hs3, hq⟩
    cases x3 with
    | normal =>
      obtain ⟨hk3, S3, hS3, hi3⟩ := hq
      obtain ⟨hr, hl4, hd4⟩ := fin none W3 hk3
      exact ⟨_, _, hr, hKK none W3 hk3, _, hSg S3 hS3, .inl ⟨rfl, S3, rfl, hSn S3 hS3, hI S3 _ W3 _ hi3 (hSn S3 hS3) ((Keeps.put W3 (D + 1) _).mono fun k _ h => .inr h), hl4, hd4⟩⟩
    | ret =>
      obtain ⟨hk3, S3, hS3, hi3⟩ := hq
      obtain ⟨hr, hl4, hd4⟩ := fin (some .ret) W3 hk3
      exact ⟨_, _, hr, hKK (some .ret) W3 hk3, _, hSg S3 hS3, .inr ⟨rfl, S3, .ret, rfl, hSn S3 hS3, hIx _ S3 _ W3 _ hi3 (hSn S3 hS3) ((Keeps.put W3 (D + 1) _).mono fun k _ h => .inr h), hl4, hd4⟩⟩
    | exit id2 =>
      obtain ⟨hk3, S3, hS3, hi3⟩ := hq
      obtain ⟨hr, hl4, hd4⟩ := fin (some (.exit id2)) W3 hk3
      exact ⟨_, _, hr, hKK (some (.exit id2)) W3 hk3, _, hSg S3 hS3, .inr ⟨rfl, S3, .exit id2, rfl, hSn S3 hS3, hIx _ S3 _ W3 _ hi3 (hSn S3 hS3) ((Keeps.put W3 (D + 1) _).mono fun k _ h => .inr h), hl4, hd4⟩⟩
    | goto t => exact hq.elim
    | panic ch => exact hq.elim
    | outgrown => exact hq.elim
end
end Go.Proofs.Ytnfeibbnjdegfaa

/- Lists of lists of bytes, of a call's own. -/
namespace Go.Proofs.Ytnfeibbnjdegfaa
open Go Go.RowKit
set_option linter.unusedVariables false
theorem one_bytess : OneT Try.prog 22 := ⟨.slice none 0 0, 24, by kernel_rfl, rfl, by kernel_rfl⟩
abbrev pay (v : BV) : List UInt8 := v.2.2
/-- The block of a list. -/
def bvB (v : BV) (k : Nat) : Prop := ∃ ad, v.1 = some ad ∧ ad.block = k
abbrev bvOwn (w : World) (base : Nat) (v : BV) : Prop := w.ownsRow base 5 1 (.slice v.1 v.2.2.length v.2.1) v.2.2.length (v.2.2.map bv)
def Apart (u v : BV) : Prop := ∀ k, bvB u k → ¬ bvB v k
structure RowsB (w : World) (base : Nat) (A : Option Addr) (c : Nat) (vs : List BV) : Prop where
  row : w.ownsRow base 31 1 (.slice A vs.length c) vs.length (vs.map sv)
  each : ∀ v ∈ vs, bvOwn w base v
  apart : vs.Pairwise Apart
theorem RowsB.nil (w : World) (base : Nat) : RowsB w base none 0 [] := ⟨World.ownsRow_nil _ _ _ _, fun v h => by simp at h, List.Pairwise.nil⟩
theorem RowsB.ext {w w' : World} {base : Nat} {A : Option Addr} {c : Nat} {vs : List BV} (h : RowsB w base A c vs) (hx : Ext w w') : RowsB w' base A c vs := ⟨own_ext h.row hx, fun v hv => own_ext (h.each v hv) hx, h.apart⟩
theorem RowsB.mono {w : World} {base base' : Nat} {A : Option Addr} {c : Nat} {vs : List BV} (h : RowsB w base A c vs) (hb : base' ≤ base) : RowsB w base' A c vs := ⟨own_mono h.row hb, fun v hv => own_mono (h.each v hv) hb, h.apart⟩
theorem bvOwn.lt {w : World} {base : Nat} {v : BV} (h : bvOwn w base v) {k : Nat} (hk : bvB v k) : base ≤ k ∧ k < w.heap.size := by
  obtain ⟨ad, ha, rfl⟩ := hk
  exact own_block h ad ha
theorem bvOwn.bs {w : World} {base : Nat} {v : BV} (h : bvOwn w base v) : Bs w v.1 v.2.2 := own_rd h
theorem bvOwn.keeps {w w' : World} {base : Nat} {v : BV} {S : Nat → Prop} (h : bvOwn w base v) (hk : Keeps w w' S) (hn : ∀ k, bvB v k → ¬ S k) : bvOwn w' base v := own_keeps h hk fun ad ha => hn _ ⟨ad, ha, rfl⟩
theorem RowsB.keeps {w w' : World} {base : Nat} {A : Option Addr} {c : Nat} {vs : List BV} {S : Nat → Prop} (h : RowsB w base A c vs) (hk : Keeps w w' S) (h1 : ∀ ad, A = some ad → ¬ S ad.block) (h2 : ∀ v ∈ vs, ∀ k, bvB v k → ¬ S k) : RowsB w' base A c vs :=
  ⟨own_keeps h.row hk h1, fun v hv => (h.each v hv).keeps hk (h2 v hv), h.apart⟩
theorem RowsB.rd {w : World} {base : Nat} {A : Option Addr} {c : Nat} {vs : List BV} (h : RowsB w base A c vs) : Rd w A (vs.map sv) := own_rd h.row
theorem own_at {w : World} {base : Nat} {T : TypeId} {A : Option Addr} {n c : Nat} {xs : List Value} (h : w.ownsRow base T 1 (.slice A n c) n xs) : A = none ∨ ∃ g cur, A = some ⟨g, 0, none⟩ ∧ w.heap[g]? = some (.cells cur T (0, 0)) := by
  rcases h.2 with ⟨hv, _⟩ | ⟨g, cap, cur, hv, _, hg, _⟩
  · injection hv with hA; exact .inl hA
  · injection hv with hA; exact .inr ⟨g, cur, hA, hg⟩
theorem own_ne_own {w : World} {b1 b2 : Nat} {T1 T2 : TypeId} {A B : Option Addr} {n c m d : Nat} {xs ys : List Value} (h1 : w.ownsRow b1 T1 1 (.slice A n c) n xs) (h2 : w.ownsRow b2 T2 1 (.slice B m d) m ys) (hne : T1 ≠ T2) : ∀ x y, A = some x → B = some y → x.block ≠ y.block := by
  intro x y hx hy hxy
  rcases own_at h1 with h | ⟨g, cur, hA, hg⟩
  · rw [h] at hx; cases hx
  rcases own_at h2 with h | ⟨g2, cur2, hB, hg2⟩
  · rw [h] at hy; cases hy
  rw [hA] at hx; rw [hB] at hy
  cases hx; cases hy
  simp only at hxy
  subst hxy
  rw [hg] at hg2
  injection hg2 with h
  injection h with _ h
  exact hne h
/-- A list more, behind the others. -/
theorem RowsB.add {w w' : World} {base : Nat} {A A' : Option Addr} {c c' : Nat} {vs : List BV} {v : BV} (h : RowsB w base A c vs) (hv : bvOwn w base v) (ha : ∀ u ∈ vs, Apart u v)
    (hg : w.grownBy w' (Value.ownBlock (.slice A vs.length c))) (hr : w'.ownsRow base 31 1 (.slice A' (vs.length + 1) c') (vs.length + 1) (vs.map sv ++ [sv v])) : RowsB w' base A' c' (vs ++ [v]) := by
  have hK : Keeps w w' (fun k => ∃ ad, A = some ad ∧ ad.block = k) := Keeps.of_grown hg (fun g hg => by
    cases A with
    | none => cases hg
    | some ad => cases hg; exact ⟨ad, rfl, rfl⟩)
  have key : ∀ u, bvOwn w base u → bvOwn w' base u := fun u hu => hu.keeps hK (fun k ⟨ad2, ha2, hb2⟩ ⟨ad, ha1, hb1⟩ => own_ne_own h.row hu (by decide) ad ad2 ha1 ha2 (by rw [hb1, hb2]))
  refine ⟨by rw [List.length_append, List.map_append]; exact hr, fun u hu => ?_, ?_⟩
  · rcases List.mem_append.1 hu with h1 | h1
    · exact key u (h.each u h1)
    · rw [List.mem_singleton.1 h1]; exact key v hv
  · rw [List.pairwise_append]
    exact ⟨h.apart, List.pairwise_singleton _ _, fun a ha1 b hb1 => by rw [List.mem_singleton.1 hb1]; exact ha a ha1⟩
theorem sv_one (vs : List BV) : ∀ u ∈ vs.map sv, u.oneCell' = true := by
  intro u hu
  obtain ⟨b, _, rfl⟩ := List.mem_map.1 hu
  rfl
end Go.Proofs.Ytnfeibbnjdegfaa
