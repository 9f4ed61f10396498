/- Walks: frames, sealed and read, the program's and the reference's. -/
import Derived.Test.YtdphahphbaebkaaFrmP
import Derived.Test.YtdphahphbaebkaaSha5
import Derived.Test.YtdphahphbaebkaaSha7
import Derived.Test.YtdphahphbaebkaaHm2
import Derived.Test.YtdphahphbaebkaaCat
import Derived.Test.YtdphahphbaebkaaOrd3
import Derived.Test.YtdphahphbaebkaaCut
namespace Go.Proofs.Ytdphahphbaebkaa
open Go Go.RowKit
set_option linter.unusedVariables false
set_option maxRecDepth 4000
theorem go_Frm1 {A B : Prop} (h : Held B → A := by
  intro hEnd
  repeat (first | refine OW_sliceP h_slp_Tag rfl ?_ | refine OW_addU64 rfl rfl (by omega) ?_ | refine OW_convIn und_u32 und_int rfl (by omega) ?_ | refine OW_convIn und_u64 und_int rfl (by omega) ?_ | refine OW_convU64 und_int und_u64 rfl (by omega) ?_ | refine OW_moveV (.int _ _) rfl ?_ | refine OW_moveV (.slice _ _ _) rfl ?_ | refine OW_moveV (.bool _) rfl ?_ | refine OW_moveV (.pointer _) rfl ?_ | refine OW_moveV (.string _) rfl ?_ | refine OW_moveV (.agg _) rfl ?_ | refine OW_moveV (.tuple _) rfl ?_ | refine OW_nil ?_ | refine thenE_normal ?_ | refine CW_seq ?_ | refine CW_region (by kernel_rfl) ?_ | refine OW_assignV (.int _ _) rfl ?_ | refine OW_assignV (.slice _ _ _) rfl ?_ | refine OW_assignV (.bool _) rfl ?_ | refine OW_assignV (.pointer _) rfl ?_ | refine OW_assignV (.string _) rfl ?_ | refine OW_assignV (.agg _) rfl ?_ | refine OW_assignV (.tuple _) rfl ?_ | refine OW_addI rfl rfl (by omega) ?_ | refine OW_subI rfl rfl (by omega) ?_ | refine OW_mulI rfl rfl (by omega) ?_ | refine OW_lss rfl rfl ?_ | refine OW_extract rfl rfl ?_ | refine OW_gtr rfl rfl ?_ | refine OW_leq rfl rfl ?_ | refine OW_geq rfl rfl ?_ | refine OW_eql rfl rfl ?_ | refine OW_neq rfl rfl ?_ | refine OW_not rfl ?_ | refine OW_pickT rfl _ rfl ?_ | refine OW_pickF rfl (.bool _) rfl ?_ | refine OW_pickB rfl rfl rfl ?_ | refine OW_move ?_ | refine OW_assign ?_ | refine OW_pass rfl ?_ | refine OW_take rfl ?_ | refine OW_lenS (by first | with_reducible exact und_bytes | with_reducible exact und_bytess) rfl ?_ | refine OW_convInt (by first | with_reducible exact und_u8 | with_reducible exact und_u64 | with_reducible exact und_int | with_reducible exact und_u32) (by first | with_reducible exact und_u8 | with_reducible exact und_u64 | with_reducible exact und_int | with_reducible exact und_u32) rfl ?_ | refine OW_add rfl rfl ?_ | refine OW_sub rfl rfl ?_ | refine OW_mul rfl rfl ?_ | refine OW_min2 rfl rfl ?_ | refine OW_max2 rfl rfl ?_ | refine OW_neg rfl ?_ | refine CW_block ?_ | refine CW_condT rfl ?_ | refine CW_condF rfl ?_ | refine CW_exit ?_ | refine CW_ret ?_ | refine CW_skip ?_ | refine LW_seq ?_ | refine LW_regC ?_ | refine LW_condC ?_ | refine LW_regF ?_ | refine LW_condF ?_ | refine FW_seq ?_ | refine FW_region (by kernel_rfl) ?_ | refine FW_block ?_ | refine FW_condT rfl ?_ | refine FW_condF rfl ?_ | refine FW_exit ?_ | refine FW_ret ?_ | refine FW_skip ?_ | refine LW_ret ?_ | refine LW_skip ?_ | refine thenE_exit ?_ | refine thenE_ret ?_ | refine inBlockE_normal ?_ | refine inBlockE_same ?_ | refine inBlockE_ret ?_ | refine inBlockE_ne (by rfl) ?_ | refine OW_eqlB (by with_reducible exact und_bool) rfl rfl ?_ | refine OW_neqB (by with_reducible exact und_bool) rfl rfl ?_ | refine OW_idxS (by with_reducible exact und_bytes) one_u8 rfl rfl _ rfl (by omega) ?_ | refine OW_idxS (by with_reducible exact und_bytess) one_bytes rfl rfl _ rfl (by omega) ?_ | refine OW_load1 (by first | with_reducible exact one_u8 | with_reducible exact one_bytes) rfl _ (by assumption) ?_)
  exact hEnd.out) (k : B) : A := h ⟨k⟩
theorem oy_Frm1 {A B : Prop} (h : Held B → A := by
  intro hEnd
  repeat (first
    | refine OY_done ?_
    | (apply OY_p _ rfl
       · intro wd
         (first | refine OW_sliceP h_slp_Tag rfl ?_ | refine OW_addU64 rfl rfl (by omega) ?_ | refine OW_convIn und_u32 und_int rfl (by omega) ?_ | refine OW_convIn und_u64 und_int rfl (by omega) ?_ | refine OW_convU64 und_int und_u64 rfl (by omega) ?_ | refine OW_moveV (.int _ _) rfl ?_ | refine OW_moveV (.slice _ _ _) rfl ?_ | refine OW_moveV (.bool _) rfl ?_ | refine OW_moveV (.pointer _) rfl ?_ | refine OW_moveV (.string _) rfl ?_ | refine OW_moveV (.agg _) rfl ?_ | refine OW_moveV (.tuple _) rfl ?_ | refine OW_nil ?_ | refine thenE_normal ?_ | refine CW_seq ?_ | refine CW_region (by kernel_rfl) ?_ | refine OW_assignV (.int _ _) rfl ?_ | refine OW_assignV (.slice _ _ _) rfl ?_ | refine OW_assignV (.bool _) rfl ?_ | refine OW_assignV (.pointer _) rfl ?_ | refine OW_assignV (.string _) rfl ?_ | refine OW_assignV (.agg _) rfl ?_ | refine OW_assignV (.tuple _) rfl ?_ | refine OW_addI rfl rfl (by omega) ?_ | refine OW_subI rfl rfl (by omega) ?_ | refine OW_mulI rfl rfl (by omega) ?_ | refine OW_lss rfl rfl ?_ | refine OW_extract rfl rfl ?_ | refine OW_gtr rfl rfl ?_ | refine OW_leq rfl rfl ?_ | refine OW_geq rfl rfl ?_ | refine OW_eql rfl rfl ?_ | refine OW_neq rfl rfl ?_ | refine OW_not rfl ?_ | refine OW_pickT rfl _ rfl ?_ | refine OW_pickF rfl (.bool _) rfl ?_ | refine OW_pickB rfl rfl rfl ?_ | refine OW_move ?_ | refine OW_assign ?_ | refine OW_pass rfl ?_ | refine OW_take rfl ?_ | refine OW_lenS (by first | with_reducible exact und_bytes | with_reducible exact und_bytess) rfl ?_ | refine OW_convInt (by first | with_reducible exact und_u8 | with_reducible exact und_u64 | with_reducible exact und_int | with_reducible exact und_u32) (by first | with_reducible exact und_u8 | with_reducible exact und_u64 | with_reducible exact und_int | with_reducible exact und_u32) rfl ?_ | refine OW_add rfl rfl ?_ | refine OW_sub rfl rfl ?_ | refine OW_mul rfl rfl ?_ | refine OW_min2 rfl rfl ?_ | refine OW_max2 rfl rfl ?_ | refine OW_neg rfl ?_ | refine CW_block ?_ | refine CW_condT rfl ?_ | refine CW_condF rfl ?_ | refine CW_exit ?_ | refine CW_ret ?_ | refine CW_skip ?_ | refine LW_seq ?_ | refine LW_regC ?_ | refine LW_condC ?_ | refine LW_regF ?_ | refine LW_condF ?_ | refine FW_seq ?_ | refine FW_region (by kernel_rfl) ?_ | refine FW_block ?_ | refine FW_condT rfl ?_ | refine FW_condF rfl ?_ | refine FW_exit ?_ | refine FW_ret ?_ | refine FW_skip ?_ | refine LW_ret ?_ | refine LW_skip ?_ | refine thenE_exit ?_ | refine thenE_ret ?_ | refine inBlockE_normal ?_ | refine inBlockE_same ?_ | refine inBlockE_ret ?_ | refine inBlockE_ne (by rfl) ?_ | refine OW_eqlB (by with_reducible exact und_bool) rfl rfl ?_ | refine OW_neqB (by with_reducible exact und_bool) rfl rfl ?_ | refine OW_idxS (by with_reducible exact und_bytes) one_u8 rfl rfl _ rfl (by omega) ?_ | refine OW_idxS (by with_reducible exact und_bytess) one_bytes rfl rfl _ rfl (by omega) ?_ | refine OW_load1 (by first | with_reducible exact one_u8 | with_reducible exact one_bytes) rfl _ (by assumption) ?_)
         refine OW_nil ?_
         exact stay_mk _ _ _ _)
    | (apply OY_q _ rfl
       · intro wd hwd
         (first | refine OW_sliceP h_slp_Tag rfl ?_ | refine OW_addU64 rfl rfl (by omega) ?_ | refine OW_convIn und_u32 und_int rfl (by omega) ?_ | refine OW_convIn und_u64 und_int rfl (by omega) ?_ | refine OW_convU64 und_int und_u64 rfl (by omega) ?_ | refine OW_moveV (.int _ _) rfl ?_ | refine OW_moveV (.slice _ _ _) rfl ?_ | refine OW_moveV (.bool _) rfl ?_ | refine OW_moveV (.pointer _) rfl ?_ | refine OW_moveV (.string _) rfl ?_ | refine OW_moveV (.agg _) rfl ?_ | refine OW_moveV (.tuple _) rfl ?_ | refine OW_nil ?_ | refine thenE_normal ?_ | refine CW_seq ?_ | refine CW_region (by kernel_rfl) ?_ | refine OW_assignV (.int _ _) rfl ?_ | refine OW_assignV (.slice _ _ _) rfl ?_ | refine OW_assignV (.bool _) rfl ?_ | refine OW_assignV (.pointer _) rfl ?_ | refine OW_assignV (.string _) rfl ?_ | refine OW_assignV (.agg _) rfl ?_ | refine OW_assignV (.tuple _) rfl ?_ | refine OW_addI rfl rfl (by omega) ?_ | refine OW_subI rfl rfl (by omega) ?_ | refine OW_mulI rfl rfl (by omega) ?_ | refine OW_lss rfl rfl ?_ | refine OW_extract rfl rfl ?_ | refine OW_gtr rfl rfl ?_ | refine OW_leq rfl rfl ?_ | refine OW_geq rfl rfl ?_ | refine OW_eql rfl rfl ?_ | refine OW_neq rfl rfl ?_ | refine OW_not rfl ?_ | refine OW_pickT rfl _ rfl ?_ | refine OW_pickF rfl (.bool _) rfl ?_ | refine OW_pickB rfl rfl rfl ?_ | refine OW_move ?_ | refine OW_assign ?_ | refine OW_pass rfl ?_ | refine OW_take rfl ?_ | refine OW_lenS (by first | with_reducible exact und_bytes | with_reducible exact und_bytess) rfl ?_ | refine OW_convInt (by first | with_reducible exact und_u8 | with_reducible exact und_u64 | with_reducible exact und_int | with_reducible exact und_u32) (by first | with_reducible exact und_u8 | with_reducible exact und_u64 | with_reducible exact und_int | with_reducible exact und_u32) rfl ?_ | refine OW_add rfl rfl ?_ | refine OW_sub rfl rfl ?_ | refine OW_mul rfl rfl ?_ | refine OW_min2 rfl rfl ?_ | refine OW_max2 rfl rfl ?_ | refine OW_neg rfl ?_ | refine CW_block ?_ | refine CW_condT rfl ?_ | refine CW_condF rfl ?_ | refine CW_exit ?_ | refine CW_ret ?_ | refine CW_skip ?_ | refine LW_seq ?_ | refine LW_regC ?_ | refine LW_condC ?_ | refine LW_regF ?_ | refine LW_condF ?_ | refine FW_seq ?_ | refine FW_region (by kernel_rfl) ?_ | refine FW_block ?_ | refine FW_condT rfl ?_ | refine FW_condF rfl ?_ | refine FW_exit ?_ | refine FW_ret ?_ | refine FW_skip ?_ | refine LW_ret ?_ | refine LW_skip ?_ | refine thenE_exit ?_ | refine thenE_ret ?_ | refine inBlockE_normal ?_ | refine inBlockE_same ?_ | refine inBlockE_ret ?_ | refine inBlockE_ne (by rfl) ?_ | refine OW_eqlB (by with_reducible exact und_bool) rfl rfl ?_ | refine OW_neqB (by with_reducible exact und_bool) rfl rfl ?_ | refine OW_idxS (by with_reducible exact und_bytes) one_u8 rfl rfl _ rfl (by omega) ?_ | refine OW_idxS (by with_reducible exact und_bytess) one_bytes rfl rfl _ rfl (by omega) ?_ | refine OW_load1 (by first | with_reducible exact one_u8 | with_reducible exact one_bytes) rfl _ (by assumption) ?_ | (refine OW_isLoad ?_; refine OW_loadBk (by first | with_reducible exact one_u8 | with_reducible exact one_bytes | with_reducible exact one_bool | with_reducible exact one_int | with_reducible exact one_errno | with_reducible exact one_u32 | with_reducible exact one_u64 | with_reducible exact one_string) rfl (by apply_assumption; assumption) _ (by first | assumption | rfl) ?_) | refine OW_load1 (by first | with_reducible exact one_u8 | with_reducible exact one_bytes | with_reducible exact one_bool | with_reducible exact one_int | with_reducible exact one_errno | with_reducible exact one_u32 | with_reducible exact one_u64 | with_reducible exact one_string) rfl _ (by apply_assumption; assumption) ?_)
         refine OW_nil ?_
         exact stay_mk _ _ _ _)
    | refine OY_ppass rfl rfl ?_
    | refine OY_qpass rfl rfl ?_
    | (apply OY_ptake _ rfl rfl
       · intro wd
         (first | refine OW_sliceP h_slp_Tag rfl ?_ | refine OW_addU64 rfl rfl (by omega) ?_ | refine OW_convIn und_u32 und_int rfl (by omega) ?_ | refine OW_convIn und_u64 und_int rfl (by omega) ?_ | refine OW_convU64 und_int und_u64 rfl (by omega) ?_ | refine OW_moveV (.int _ _) rfl ?_ | refine OW_moveV (.slice _ _ _) rfl ?_ | refine OW_moveV (.bool _) rfl ?_ | refine OW_moveV (.pointer _) rfl ?_ | refine OW_moveV (.string _) rfl ?_ | refine OW_moveV (.agg _) rfl ?_ | refine OW_moveV (.tuple _) rfl ?_ | refine OW_nil ?_ | refine thenE_normal ?_ | refine CW_seq ?_ | refine CW_region (by kernel_rfl) ?_ | refine OW_assignV (.int _ _) rfl ?_ | refine OW_assignV (.slice _ _ _) rfl ?_ | refine OW_assignV (.bool _) rfl ?_ | refine OW_assignV (.pointer _) rfl ?_ | refine OW_assignV (.string _) rfl ?_ | refine OW_assignV (.agg _) rfl ?_ | refine OW_assignV (.tuple _) rfl ?_ | refine OW_addI rfl rfl (by omega) ?_ | refine OW_subI rfl rfl (by omega) ?_ | refine OW_mulI rfl rfl (by omega) ?_ | refine OW_lss rfl rfl ?_ | refine OW_extract rfl rfl ?_ | refine OW_gtr rfl rfl ?_ | refine OW_leq rfl rfl ?_ | refine OW_geq rfl rfl ?_ | refine OW_eql rfl rfl ?_ | refine OW_neq rfl rfl ?_ | refine OW_not rfl ?_ | refine OW_pickT rfl _ rfl ?_ | refine OW_pickF rfl (.bool _) rfl ?_ | refine OW_pickB rfl rfl rfl ?_ | refine OW_move ?_ | refine OW_assign ?_ | refine OW_pass rfl ?_ | refine OW_take rfl ?_ | refine OW_lenS (by first | with_reducible exact und_bytes | with_reducible exact und_bytess) rfl ?_ | refine OW_convInt (by first | with_reducible exact und_u8 | with_reducible exact und_u64 | with_reducible exact und_int | with_reducible exact und_u32) (by first | with_reducible exact und_u8 | with_reducible exact und_u64 | with_reducible exact und_int | with_reducible exact und_u32) rfl ?_ | refine OW_add rfl rfl ?_ | refine OW_sub rfl rfl ?_ | refine OW_mul rfl rfl ?_ | refine OW_min2 rfl rfl ?_ | refine OW_max2 rfl rfl ?_ | refine OW_neg rfl ?_ | refine CW_block ?_ | refine CW_condT rfl ?_ | refine CW_condF rfl ?_ | refine CW_exit ?_ | refine CW_ret ?_ | refine CW_skip ?_ | refine LW_seq ?_ | refine LW_regC ?_ | refine LW_condC ?_ | refine LW_regF ?_ | refine LW_condF ?_ | refine FW_seq ?_ | refine FW_region (by kernel_rfl) ?_ | refine FW_block ?_ | refine FW_condT rfl ?_ | refine FW_condF rfl ?_ | refine FW_exit ?_ | refine FW_ret ?_ | refine FW_skip ?_ | refine LW_ret ?_ | refine LW_skip ?_ | refine thenE_exit ?_ | refine thenE_ret ?_ | refine inBlockE_normal ?_ | refine inBlockE_same ?_ | refine inBlockE_ret ?_ | refine inBlockE_ne (by rfl) ?_ | refine OW_eqlB (by with_reducible exact und_bool) rfl rfl ?_ | refine OW_neqB (by with_reducible exact und_bool) rfl rfl ?_ | refine OW_idxS (by with_reducible exact und_bytes) one_u8 rfl rfl _ rfl (by omega) ?_ | refine OW_idxS (by with_reducible exact und_bytess) one_bytes rfl rfl _ rfl (by omega) ?_ | refine OW_load1 (by first | with_reducible exact one_u8 | with_reducible exact one_bytes) rfl _ (by assumption) ?_)
         refine OW_nil ?_
         exact stay_mk _ _ _ _)
    | (apply OY_qtake _ rfl rfl
       · intro wd hwd
         (first | refine OW_sliceP h_slp_Tag rfl ?_ | refine OW_addU64 rfl rfl (by omega) ?_ | refine OW_convIn und_u32 und_int rfl (by omega) ?_ | refine OW_convIn und_u64 und_int rfl (by omega) ?_ | refine OW_convU64 und_int und_u64 rfl (by omega) ?_ | refine OW_moveV (.int _ _) rfl ?_ | refine OW_moveV (.slice _ _ _) rfl ?_ | refine OW_moveV (.bool _) rfl ?_ | refine OW_moveV (.pointer _) rfl ?_ | refine OW_moveV (.string _) rfl ?_ | refine OW_moveV (.agg _) rfl ?_ | refine OW_moveV (.tuple _) rfl ?_ | refine OW_nil ?_ | refine thenE_normal ?_ | refine CW_seq ?_ | refine CW_region (by kernel_rfl) ?_ | refine OW_assignV (.int _ _) rfl ?_ | refine OW_assignV (.slice _ _ _) rfl ?_ | refine OW_assignV (.bool _) rfl ?_ | refine OW_assignV (.pointer _) rfl ?_ | refine OW_assignV (.string _) rfl ?_ | refine OW_assignV (.agg _) rfl ?_ | refine OW_assignV (.tuple _) rfl ?_ | refine OW_addI rfl rfl (by omega) ?_ | refine OW_subI rfl rfl (by omega) ?_ | refine OW_mulI rfl rfl (by omega) ?_ | refine OW_lss rfl rfl ?_ | refine OW_extract rfl rfl ?_ | refine OW_gtr rfl rfl ?_ | refine OW_leq rfl rfl ?_ | refine OW_geq rfl rfl ?_ | refine OW_eql rfl rfl ?_ | refine OW_neq rfl rfl ?_ | refine OW_not rfl ?_ | refine OW_pickT rfl _ rfl ?_ | refine OW_pickF rfl (.bool _) rfl ?_ | refine OW_pickB rfl rfl rfl ?_ | refine OW_move ?_ | refine OW_assign ?_ | refine OW_pass rfl ?_ | refine OW_take rfl ?_ | refine OW_lenS (by first | with_reducible exact und_bytes | with_reducible exact und_bytess) rfl ?_ | refine OW_convInt (by first | with_reducible exact und_u8 | with_reducible exact und_u64 | with_reducible exact und_int | with_reducible exact und_u32) (by first | with_reducible exact und_u8 | with_reducible exact und_u64 | with_reducible exact und_int | with_reducible exact und_u32) rfl ?_ | refine OW_add rfl rfl ?_ | refine OW_sub rfl rfl ?_ | refine OW_mul rfl rfl ?_ | refine OW_min2 rfl rfl ?_ | refine OW_max2 rfl rfl ?_ | refine OW_neg rfl ?_ | refine CW_block ?_ | refine CW_condT rfl ?_ | refine CW_condF rfl ?_ | refine CW_exit ?_ | refine CW_ret ?_ | refine CW_skip ?_ | refine LW_seq ?_ | refine LW_regC ?_ | refine LW_condC ?_ | refine LW_regF ?_ | refine LW_condF ?_ | refine FW_seq ?_ | refine FW_region (by kernel_rfl) ?_ | refine FW_block ?_ | refine FW_condT rfl ?_ | refine FW_condF rfl ?_ | refine FW_exit ?_ | refine FW_ret ?_ | refine FW_skip ?_ | refine LW_ret ?_ | refine LW_skip ?_ | refine thenE_exit ?_ | refine thenE_ret ?_ | refine inBlockE_normal ?_ | refine inBlockE_same ?_ | refine inBlockE_ret ?_ | refine inBlockE_ne (by rfl) ?_ | refine OW_eqlB (by with_reducible exact und_bool) rfl rfl ?_ | refine OW_neqB (by with_reducible exact und_bool) rfl rfl ?_ | refine OW_idxS (by with_reducible exact und_bytes) one_u8 rfl rfl _ rfl (by omega) ?_ | refine OW_idxS (by with_reducible exact und_bytess) one_bytes rfl rfl _ rfl (by omega) ?_ | refine OW_load1 (by first | with_reducible exact one_u8 | with_reducible exact one_bytes) rfl _ (by assumption) ?_ | (refine OW_isLoad ?_; refine OW_loadBk (by first | with_reducible exact one_u8 | with_reducible exact one_bytes | with_reducible exact one_bool | with_reducible exact one_int | with_reducible exact one_errno | with_reducible exact one_u32 | with_reducible exact one_u64 | with_reducible exact one_string) rfl (by apply_assumption; assumption) _ (by first | assumption | rfl) ?_) | refine OW_load1 (by first | with_reducible exact one_u8 | with_reducible exact one_bytes | with_reducible exact one_bool | with_reducible exact one_int | with_reducible exact one_errno | with_reducible exact one_u32 | with_reducible exact one_u64 | with_reducible exact one_string) rfl _ (by apply_assumption; assumption) ?_)
         refine OW_nil ?_
         exact stay_mk _ _ _ _)
    | refine OY_a (actY_of rfl ?_)
    | refine OY_d (actY_of rfl ?_)
    | refine OY_a (actY_pass rfl rfl ?_)
    | refine OY_d (actY_pass rfl rfl ?_)
    | refine OY_a (actY_take rfl rfl ?_)
    | refine OY_d (actY_take rfl rfl ?_))
  exact hEnd.out) (k : B) : A := h ⟨k⟩
section
variable {P : Program} {ops : Array Oper} {Q : Exit → (Nat → Value) → World → Prop} {rest : List Oper} {e : Nat → Value} {w : World} {d : Tmp} {ty : TypeId} {pos : String} {aft : Array Edge}
theorem OW_addU64 {x y : Operand} {t t' : TypeId} {a b : Int} (hx : ev e x = .int .u64 a) (hy : ev e y = .int .u64 b) (hb : 0 ≤ a + b ∧ a + b < 18446744073709551616) (h : OW P ops Q rest (upd e d (.int .u64 (a + b))) w) : OW P ops Q (⟨some d, .binOp .add t x y t', ty, pos, aft, none⟩ :: rest) e w :=
  OW_add hx hy (by rw [show IntKind.u64.wrap (a + b) = a + b by have := wrap_u64_lt (a + b).toNat (by omega); rwa [show (((a + b).toNat : Nat) : Int) = a + b by omega] at this]; exact h)
theorem OW_convIn {x : Operand} {t t' : TypeId} {s : TypeDesc} {k' : IntKind} {a : Int} (hs : P.underlying t = some s) (ht : P.underlying t' = some (.int .i64)) (hx : ev e x = .int k' a) (hb : -9223372036854775808 ≤ a ∧ a ≤ 9223372036854775807) (h : OW P ops Q rest (upd e d (.int .i64 a)) w) : OW P ops Q (⟨some d, .convert t t' x, ty, pos, aft, none⟩ :: rest) e w :=
  OW_convInt hs ht hx (by rw [wrap64_in hb]; exact h)
theorem OW_convU64 {x : Operand} {t t' : TypeId} {s : TypeDesc} {k' : IntKind} {a : Int} (hs : P.underlying t = some s) (ht : P.underlying t' = some (.int .u64)) (hx : ev e x = .int k' a) (hb : 0 ≤ a ∧ a < 18446744073709551616) (h : OW P ops Q rest (upd e d (.int .u64 a)) w) : OW P ops Q (⟨some d, .convert t t' x, ty, pos, aft, none⟩ :: rest) e w :=
  OW_convInt hs ht hx (by rw [show IntKind.u64.wrap a = a by have := wrap_u64_lt a.toNat (by omega); rwa [show ((a.toNat : Nat) : Int) = a by omega] at this]; exact h)
end
theorem ld4 {b : List UInt8} (h : 4 ≤ b.length) : ldV b 0 4 = loadL (b.take 4) ∧ ldB b 0 4 = true := by
  simp [ldV, ldB, ldL, h]
theorem ld4no {b : List UInt8} (h : ¬ 4 ≤ b.length) : ldV b 0 4 = 0 ∧ ldB b 0 4 = false := by
  simp [ldV, ldB, ldL, h]
theorem loadL4_lt (b : List UInt8) : loadL (b.take 4) < 4294967296 := by
  have := loadL_lt (b.take 4)
  have h2 : 256 ^ (b.take 4).length ≤ 256 ^ 4 := Nat.pow_le_pow_right (by decide) (by rw [List.length_take]; omega)
  omega
set_option maxHeartbeats 8000000 in
theorem sealed_any (w : World) (A : Option Addr) (c : Nat) (b : List UInt8) (hb : Bs w A b) (hl : b.length ≤ 200000) :
    Calls Try.prog 27 #[.slice A b.length c] w (RetBs 5 w (sealB b)) := by
  have hol := shaL_length b
  have hs := fun c => shaSum_any w A c b hb (by omega)
  obtain ⟨out, ho⟩ : ∃ out, shaL b = out := ⟨_, rfl⟩
  have hsb : sealB b = b ++ out.take 8 := by unfold sealB; rw [ho]
  rw [ho] at hol hs
  rw [hsb]
  refine calls_of_CW Try.func27 rfl (by simp [Try.ntmps27]) ?_
  rw [Try.ntmps27]
  refine go_Frm1 (k := ?_)
  refine OW_callV Try.func37 (by kernel_rfl) rfl (hs c) rfl ?_
  intro w1 hx1
  refine go_Frm1 (k := ?_)
  refine OW_allocA s_agg_Tag ?_
  intro w2 g3 hb3 hg3 hl3 hx2
  have holen : (out.map bv).length = 32 := by rw [List.length_map, hol]
  refine go_Frm1 (k := ?_)
  refine OW_storeA s_agg_Tag rfl (out.map bv) rfl holen hb3 rfl (bv_one _) ?_
  intro w3 hb3' hgr
  have hx03 : Ext w w3 := below_only (hx1.trans' hx2) hgr (by have := hx1.size; omega) (hx1.trans' hx2).size
  refine go_Frm1 (k := ?_)
  refine OW_sliceA s_und_Tag one_u8 rfl rfl ⟨_, rfl⟩ 0 8 rfl rfl (by decide) (by decide) (by decide) ?_
  refine go_Frm1 (k := ?_)
  refine OW_lit [.slice A b.length c, .slice (some ⟨g3, 0, none⟩) 8 32] und_bytess info_bytes rfl rfl (by simp [Value.oneCell']) (by decide) ?_
  intro w4 g4 hb4 hg4 hx4
  have hb8 : Bs w4 (some ⟨g3, 0, none⟩) (out.take 8) := by
    have := (bs_row (hb3'.ext hx4)).cut 32 0 8 (by omega)
    simpa [cutA, add0] using this
  have hcat := cat_lit2 (c := 2) hb4 (hb.ext (hx03.trans' hx4)) rfl hb8 (by rw [List.length_take]; omega) (by rw [List.length_take]; omega)
  refine go_Frm1 (k := ?_)
  refine OW_callBs Try.func22 (by kernel_rfl) rfl hcat rfl ?_
  intro w5 A5 c5 hf5
  refine go_Frm1 (k := ?_)
  exact bodyE_ret1 rfl (.slice A5 _ c5) rfl ⟨A5, c5, rfl, hf5.back (hx03.trans' hx4)⟩
set_option maxHeartbeats 8000000 in
theorem fseal_any (w : World) (A : Option Addr) (c : Nat) (b : List UInt8) (hb : Bs w A b) (hl : b.length ≤ 65536) :
    Calls Try.prog 11 #[.slice A b.length c] w (fun en w' => ∃ A' c', en = .returned (.tuple #[.slice A' (frameB b).length c', .int .i64 0]) ∧ Fresh 5 w w' A' c' (frameB b)) := by
  have hp4 := putL_length b.length 4
  have hsd := fun w1 A1 c1 (h1 : Bs w1 A1 (putL b.length 4 ++ b)) => sealed_any w1 A1 c1 (putL b.length 4 ++ b) h1 (by rw [List.length_append]; omega)
  rw [show sealB (putL b.length 4 ++ b) = frameB b from rfl] at hsd
  refine calls_of_CW Try.func11 rfl (by simp [Try.ntmps11]) ?_
  rw [Try.ntmps11]
  refine go_Frm1 (k := ?_)
  rw [decide_eq_false (by omega)]
  refine go_Frm1 (k := ?_)
  rw [wrap_u32_lt _ (by omega)]
  refine OW_callBs Try.func28 (by kernel_rfl) rfl (put32_any w b.length (by omega)) rfl ?_
  intro w1 A1 c1 hf1
  refine go_Frm1 (k := ?_)
  refine OW_lit [.slice A1 (putL b.length 4).length c1, .slice A b.length c] und_bytess info_bytes rfl rfl (by simp [Value.oneCell']) (by decide) ?_
  intro w2 g2 hb2 hg2 hx2
  have hcat := cat_lit2 (c := 2) hb2 (hf1.bs.ext hx2) rfl (hb.ext (hf1.ext.trans' hx2)) rfl (by omega)
  refine go_Frm1 (k := ?_)
  refine OW_callBs Try.func22 (by kernel_rfl) rfl hcat rfl ?_
  intro w3 A3 c3 hf3
  refine go_Frm1 (k := ?_)
  refine OW_callBs Try.func27 (by kernel_rfl) rfl (hsd w3 A3 c3 hf3.bs) rfl ?_
  intro w4 A4 c4 hf4
  generalize frameB b = F at *
  refine go_Frm1 (k := ?_)
  exact bodyE_ret2 rfl (.slice A4 F.length c4) (.int .i64 0) rfl rfl ⟨A4, c4, rfl, hf4.back ((hf1.ext.trans' hx2).trans' hf3.ext)⟩
set_option maxHeartbeats 8000000 in
theorem fsealLong_any (w : World) (A : Option Addr) (c : Nat) (n : Nat) (hl : 65536 < n) :
    Calls Try.prog 11 #[.slice A n c] w (RetV w (.tuple #[.slice none 0 0, .int .i64 3])) := by
  refine calls_of_CW Try.func11 rfl (by simp [Try.ntmps11]) ?_
  rw [Try.ntmps11]
  refine go_Frm1 (k := ?_)
  rw [decide_eq_true (by omega)]
  refine go_Frm1 (k := ?_)
  exact bodyE_ret2 rfl (.slice none 0 0) (.int .i64 3) rfl rfl ⟨rfl, Ext.rfl' w⟩
set_option maxHeartbeats 8000000 in
theorem refSeal_any (w : World) (A : Option Addr) (c : Nat) (b : List UInt8) (hb : Bs w A b) (hl : b.length ≤ 70000) :
    Calls Try.prog 10 #[.slice A b.length c] w (RetBs 5 w (frameB b)) := by
  have hp4 := putL_length b.length 4
  obtain ⟨a, ha⟩ : ∃ a, putL b.length 4 ++ b = a := ⟨_, rfl⟩
  have hal : a.length = b.length + 4 := by rw [← ha, List.length_append, hp4]; omega
  have hF : frameB b = a ++ (shaL a).take 8 := by unfold frameB sealB; rw [ha]
  have hol := shaL_length a
  have hs := fun w A c (hb : Bs w A a) => refSum_any w A c a hb (by omega)
  obtain ⟨out, ho⟩ : ∃ out, shaL a = out := ⟨_, rfl⟩
  rw [ho] at hol hs hF
  rw [hF]
  clear hF ho
  refine calls_of_CW Try.func10 rfl (by simp [Try.ntmps10]) ?_
  rw [Try.ntmps10]
  refine go_Frm1 (k := ?_)
  refine OW_callBs Try.func24 (by kernel_rfl) rfl (refPut_any w b.length 4 4 rfl (by decide) (by omega)) rfl ?_
  intro w1 A1 c1 hf1
  have hct := fun c2 => refCat_any w1 A1 A (putL b.length 4) b c1 c2 hf1.bs (hb.ext hf1.ext) (by omega)
  rw [ha] at hct
  refine go_Frm1 (k := ?_)
  refine OW_callBs Try.func23 (by kernel_rfl) rfl (hct c) rfl ?_
  intro w2 A2 c2 hf2
  refine go_Frm1 (k := ?_)
  refine OW_callV Try.func26 (by kernel_rfl) rfl (hs w2 A2 c2 hf2.bs) rfl ?_
  intro w3 hx3
  refine go_Frm1 (k := ?_)
  refine OW_callBs Try.func25 (by kernel_rfl) rfl (refBytes_any w3 out hol) rfl ?_
  intro w4 A4 c4 hf4
  have hcp := hf4.cap
  refine go_Frm1 (k := ?_)
  refine OW_sliceBs und_bytes one_u8 hf4.bs rfl hcp rfl rfl ⟨_, rfl⟩ 0 8 rfl rfl (by omega) ?_
  intro A5 hb5 hl5
  rw [show (out.drop 0).take (8 - 0) = out.take 8 from rfl] at hb5 hl5
  rw [← hl5]
  refine go_Frm1 (k := ?_)
  refine OW_callBs Try.func23 (by kernel_rfl) rfl (refCat_any w4 A2 A5 a (out.take 8) c2 _ ((hf2.bs.ext hx3).ext hf4.ext) hb5 (by omega)) rfl ?_
  intro w6 A6 c6 hf6
  refine go_Frm1 (k := ?_)
  exact bodyE_ret1 rfl (.slice A6 _ c6) rfl ⟨A6, c6, rfl, hf6.back (((hf1.ext.trans' hf2.ext).trans' hx3).trans' hf4.ext)⟩
/-- What Next tells. -/
def NextP (w : World) (b : List UInt8) : Ending → World → Prop := fun en w' => (nextL b = none ∧ en = .returned (.tuple #[.slice none 0 0, .int .i64 0, .int .i64 50]) ∧ Ext w w') ∨ (∃ p A c, nextL b = some p ∧ en = .returned (.tuple #[.slice A p.length c, .int .i64 ((p.length : Int) + 12), .int .i64 0]) ∧ Fresh 5 w w' A c p)
theorem bodyE_ret3 {P : Program} {fn : Func} {R : Ending → World → Prop} {e : Nat → Value} {w : World} {t u x : Tmp} (hr : fn.results = #[.tmp t, .tmp u, .tmp x]) (v v' v'' : Value) (hv : e t = v) (hv' : e u = v') (hv'' : e x = v'') (hR : R (.returned (.tuple #[v, v', v''])) w) : bodyE P fn R .ret e w := by
  unfold bodyE
  refine ⟨_, fun tmps ht => ?_, hR⟩
  subst hv; subst hv'; subst hv''
  rw [← ht, ← ht, ← ht]
  simp [results, hr]
set_option maxHeartbeats 8000000 in
theorem frameNext_any (w : World) (A : Option Addr) (c : Nat) (b : List UInt8) (hb : Bs w A b) (hc : b.length ≤ c) (hl : b.length ≤ 100000) :
    Calls Try.prog 13 #[.slice A b.length c] w (NextP w b) := by
  have hT := load32_any w A b c 0 hb hc (by omega) (by decide)
  have hlt := loadL4_lt b
  have hno : ¬ (4 ≤ b.length ∧ loadL (b.take 4) ≤ 65536 ∧ loadL (b.take 4) + 12 ≤ b.length ∧ sealB (b.take (4 + loadL (b.take 4))) = b.take (loadL (b.take 4) + 12)) → nextL b = none := fun h => by unfold nextL; rw [if_neg h]
  have hyes : (4 ≤ b.length ∧ loadL (b.take 4) ≤ 65536 ∧ loadL (b.take 4) + 12 ≤ b.length ∧ sealB (b.take (4 + loadL (b.take 4))) = b.take (loadL (b.take 4) + 12)) → nextL b = some ((b.drop 4).take (loadL (b.take 4))) := fun h => by unfold nextL; rw [if_pos h]
  refine calls_of_CW Try.func13 rfl (by simp [Try.ntmps13]) ?_
  rw [Try.ntmps13]
  refine go_Frm1 (k := ?_)
  refine OW_callV Try.func29 (by kernel_rfl) rfl hT rfl ?_
  intro w1 hx1
  by_cases h4 : 4 ≤ b.length
  rotate_left 1
  · rw [(ld4no h4).1, (ld4no h4).2]
    refine go_Frm1 (k := ?_)
    obtain ⟨C, hC⟩ : ∃ C : World → Prop, C = fun v => Ext w1 v := ⟨_, rfl⟩
    refine CW_tree2 [] (.p 0 (.p 1 (.p 2 (.p 3 (.p 4 (.p 5 (.p 6 (.p 7 (.p 8 (.p 9 (.p 10 (.p 11 (.p 12 (.p 13 (.p 14 (.p 15 (.p 16 (.p 18 (.p 19 (.p 20 (.p 21 (.d 17 (.d 22 (.p 23 (.p 24 .done))))))))))))))))))))))))) (C) (by kernel_rfl) (by kernel_rfl) (by kernel_rfl) ?_ ?_
    · exact inE hC
    intro w2 hx2 h_C
    refine oy_Frm1 (k := ?_)
    refine go_Frm1 (k := ?_)
    exact bodyE_ret3 rfl (.slice none 0 0) (.int .i64 0) (.int .i64 50) rfl rfl rfl (.inl ⟨hno (fun h => h4 h.1), rfl, hx1.trans' hx2⟩)
  rw [(ld4 h4).1, (ld4 h4).2]
  obtain ⟨n, hn⟩ : ∃ n, loadL (b.take 4) = n := ⟨_, rfl⟩
  rw [hn] at hno hyes hlt ⊢
  by_cases h5 : n ≤ 65536
  rotate_left 1
  · refine go_Frm1 (k := ?_)
    obtain ⟨C, hC⟩ : ∃ C : World → Prop, C = fun v => Ext w1 v := ⟨_, rfl⟩
    refine CW_tree2 [] (.p 0 (.p 1 (.p 2 (.p 3 (.p 4 (.p 5 (.p 6 (.p 7 (.p 8 (.p 9 (.p 10 (.p 11 (.p 12 (.p 13 (.p 14 (.p 15 (.p 16 (.p 18 (.p 19 (.p 20 (.p 21 (.d 17 (.d 22 (.p 23 (.p 24 .done))))))))))))))))))))))))) (C) (by kernel_rfl) (by kernel_rfl) (by kernel_rfl) ?_ ?_
    · exact inE hC
    intro w2 hx2 h_C
    refine oy_Frm1 (k := ?_)
    rw [decide_eq_true (show (65536 : Int) < n by omega)]
    refine oy_Frm1 (k := ?_)
    refine go_Frm1 (k := ?_)
    exact bodyE_ret3 rfl (.slice none 0 0) (.int .i64 0) (.int .i64 50) rfl rfl rfl (.inl ⟨hno (fun h => h5 h.2.1), rfl, hx1.trans' hx2⟩)
  by_cases h6 : n + 12 ≤ b.length
  rotate_left 1
  · refine go_Frm1 (k := ?_)
    obtain ⟨C, hC⟩ : ∃ C : World → Prop, C = fun v => Ext w1 v := ⟨_, rfl⟩
    refine CW_tree2 [] (.p 0 (.p 1 (.p 2 (.p 3 (.p 4 (.p 5 (.p 6 (.p 7 (.p 8 (.p 9 (.p 10 (.p 11 (.p 12 (.p 13 (.p 14 (.p 15 (.p 16 (.p 18 (.p 19 (.p 20 (.p 21 (.d 17 (.d 22 (.p 23 (.p 24 .done))))))))))))))))))))))))) (C) (by kernel_rfl) (by kernel_rfl) (by kernel_rfl) ?_ ?_
    · exact inE hC
    intro w2 hx2 h_C
    refine oy_Frm1 (k := ?_)
    rw [decide_eq_false (show ¬ (65536 : Int) < n by omega)]
    refine oy_Frm1 (k := ?_)
    rw [decide_eq_true (show (b.length : Int) < 4 + n + 8 by omega)]
    refine oy_Frm1 (k := ?_)
    refine go_Frm1 (k := ?_)
    exact bodyE_ret3 rfl (.slice none 0 0) (.int .i64 0) (.int .i64 50) rfl rfl rfl (.inl ⟨hno (fun h => h6 h.2.2.1), rfl, hx1.trans' hx2⟩)
  have hcut : ∀ m, m ≤ b.length → Bs w (cutA A c 0) (b.take m) := fun m hm => hb.cut c 0 m (by omega)
  have hA0 : cutA A c 0 = A := by unfold cutA; split; rfl; cases A <;> rfl
  rw [hA0] at hcut
  have hl4 : (b.take (4 + n)).length = 4 + n := by rw [List.length_take]; omega
  have hl12 : (b.take (n + 12)).length = n + 12 := by rw [List.length_take]; omega
  have hsl := sealB_length (b.take (4 + n))
  refine go_Frm1 (k := ?_)
  obtain ⟨C, hC⟩ : ∃ C : World → Prop, C = fun v => Ext w1 v := ⟨_, rfl⟩
  refine CW_tree2 [] (.p 0 (.p 1 (.p 2 (.p 3 (.p 4 (.p 5 (.p 6 (.p 7 (.p 8 (.p 9 (.p 10 (.p 11 (.p 12 (.p 13 (.p 14 (.p 15 (.p 16 (.p 18 (.p 19 (.p 20 (.p 21 (.d 17 (.d 22 (.p 23 (.p 24 .done))))))))))))))))))))))))) (C) (by kernel_rfl) (by kernel_rfl) (by kernel_rfl) ?_ ?_
  · exact inE hC
  intro w2 hx2 h_C
  refine oy_Frm1 (k := ?_)
  rw [decide_eq_false (show ¬ (65536 : Int) < n by omega)]
  refine oy_Frm1 (k := ?_)
  rw [decide_eq_false (show ¬ (b.length : Int) < 4 + n + 8 by omega)]
  refine oy_Frm1 (k := ?_)
  apply OY_ptake _ rfl rfl
  · intro wd
    refine OW_slice (lv := 0) (hv := ((4 + n : Nat) : Int)) (mv := c) und_bytes one_u8 rfl rfl ⟨_, by rw [show ((4 + n : Nat) : Int) = 4 + (n : Int) by omega]; rfl⟩ rfl (fun h => by cases h) (by omega) ?_
    refine OW_nil ?_
    exact stay_mk _ _ _ _
  refine oy_Frm1 (k := ?_)
  apply OY_ptake _ rfl rfl
  · intro wd
    refine OW_slice (lv := 0) (hv := ((n + 12 : Nat) : Int)) (mv := c) und_bytes one_u8 rfl rfl ⟨_, by rw [show ((n + 12 : Nat) : Int) = 4 + (n : Int) + 8 by omega]; rfl⟩ rfl (fun h => by cases h) (by omega) ?_
    refine OW_nil ?_
    exact stay_mk _ _ _ _
  rw [Int.toNat_natCast, Int.toNat_natCast, Int.toNat_natCast, Int.toNat_zero, hA0, Nat.sub_zero, Nat.sub_zero, Nat.sub_zero]
  refine oy_Frm1 (k := ?_)
  have hsd := sealed_any w2 A c (b.take (4 + n)) ((hcut _ (by omega)).ext (hx1.trans' hx2)) (by omega)
  rw [hl4] at hsd
  refine OW_callBs Try.func27 (by kernel_rfl) rfl hsd rfl ?_
  intro w3 A3 c3 hf3
  first | refine OW_nil (goY_mkE hC (hx2.trans' hf3.ext) ?_) | refine OW_nil (goY_dropE hC (hx2.trans' hf3.ext) ?_)
  refine oy_Frm1 (k := ?_)
  have hsm := same_any w3 A3 A (sealB (b.take (4 + n))) (b.take (n + 12)) c3 c hf3.bs ((hcut _ (by omega)).ext ((hx1.trans' hx2).trans' hf3.ext)) hf3.cap (by omega)
  rw [hl12] at hsm
  refine OW_callV Try.func21 (by kernel_rfl) rfl hsm rfl ?_
  intro w4 hx4
  have hx04 := ((hx1.trans' hx2).trans' hf3.ext).trans' hx4
  by_cases h7 : sealB (b.take (4 + n)) = b.take (n + 12)
  rotate_left 1
  · rw [beq_eq_false_iff_ne.2 h7]
    first | refine OW_nil (goY_mkE hC ((hx2.trans' hf3.ext).trans' hx4) ?_) | refine OW_nil (goY_dropE hC ((hx2.trans' hf3.ext).trans' hx4) ?_)
    refine oy_Frm1 (k := ?_)
    refine go_Frm1 (k := ?_)
    exact bodyE_ret3 rfl (.slice none 0 0) (.int .i64 0) (.int .i64 50) rfl rfl rfl (.inl ⟨hno (fun h => h7 h.2.2.2), rfl, hx04⟩)
  rw [beq_iff_eq.2 h7]
  first | refine OW_nil (goY_mkE hC ((hx2.trans' hf3.ext).trans' hx4) ?_) | refine OW_nil (goY_dropE hC ((hx2.trans' hf3.ext).trans' hx4) ?_)
  refine oy_Frm1 (k := ?_)
  refine go_Frm1 (k := ?_)
  refine OW_sliceBs und_bytes one_u8 (hb.ext hx04) rfl hc rfl ⟨_, rfl⟩ ⟨_, rfl⟩ 4 (4 + n) rfl (by omega) (by omega) ?_
  intro A5 hb5 hl5
  rw [show 4 + n - 4 = n by omega] at hb5 hl5 ⊢
  have hnx := hyes ⟨h4, h5, h6, h7⟩
  obtain ⟨p, hp⟩ : ∃ p, (b.drop 4).take n = p := ⟨_, rfl⟩
  rw [hp] at hb5 hl5 hnx
  refine go_Frm1 (k := ?_)
  refine OW_lit [.slice A5 n (c - 4)] und_bytess info_bytes rfl rfl (by simp [Value.oneCell']) (by decide) ?_
  intro w6 g6 hb6 hg6 hx6
  have hcat := cat_lit1 (c := 1) hb6 (hb5.ext hx6) hl5 (by omega)
  refine go_Frm1 (k := ?_)
  refine OW_callBs Try.func22 (by kernel_rfl) rfl hcat rfl ?_
  intro w7 A7 c7 hf7
  refine go_Frm1 (k := ?_)
  exact bodyE_ret3 rfl (.slice A7 p.length c7) (.int .i64 (4 + (n : Int) + 8)) (.int .i64 0) rfl rfl rfl (.inr ⟨p, A7, c7, hnx, by rw [show (4 + (n : Int) + 8) = (p.length : Int) + 12 by omega], hf7.back (hx04.trans' hx6)⟩)
end Go.Proofs.Ytdphahphbaebkaa
