/- Several texts in one, as they stand in wip/src. -/
import Derived.Test.YtnfeibbnjdegfaaGw20
import Derived.Test.YtnfeibbnjdegfaaGw21
/- Walks: wals in play; the statements' own functions on records. -/
namespace Go.Proofs.Ytnfeibbnjdegfaa
open Go Go.RowKit
set_option linter.unusedVariables false
set_option maxRecDepth 4000
theorem go_WalB {A B : Prop} (h : Held B → A := by
  intro hEnd
  repeat (first | refine OW_strOf und_bytes und_u8 w_und_string (by apply_assumption; assumption) rfl ?_ | refine OW_neqST rfl rfl (by assumption) ?_ | refine OW_moveV (.int _ _) rfl ?_ | refine OW_moveV (.slice _ _ _) rfl ?_ | refine OW_moveV (.bool _) rfl ?_ | refine OW_moveV (.pointer _) rfl ?_ | refine OW_moveV (.string _) rfl ?_ | refine OW_moveV (.agg _) rfl ?_ | refine OW_moveV (.tuple _) rfl ?_ | refine OW_nil ?_ | refine thenE_normal ?_ | refine CW_seq ?_ | refine CW_region (by kernel_rfl) ?_ | refine OW_assignV (.int _ _) rfl ?_ | refine OW_assignV (.slice _ _ _) rfl ?_ | refine OW_assignV (.bool _) rfl ?_ | refine OW_assignV (.pointer _) rfl ?_ | refine OW_assignV (.string _) rfl ?_ | refine OW_assignV (.agg _) rfl ?_ | refine OW_assignV (.tuple _) rfl ?_ | refine OW_addI rfl rfl (by omega) ?_ | refine OW_subI rfl rfl (by omega) ?_ | refine OW_mulI rfl rfl (by omega) ?_ | refine OW_lss rfl rfl ?_ | refine OW_extract rfl rfl ?_ | refine OW_gtr rfl rfl ?_ | refine OW_leq rfl rfl ?_ | refine OW_geq rfl rfl ?_ | refine OW_eql rfl rfl ?_ | refine OW_neq rfl rfl ?_ | refine OW_not rfl ?_ | refine OW_pickT rfl _ rfl ?_ | refine OW_pickF rfl (.bool _) rfl ?_ | refine OW_pickB rfl rfl rfl ?_ | refine OW_move ?_ | refine OW_assign ?_ | refine OW_pass rfl ?_ | refine OW_take rfl ?_ | refine OW_lenS (by first | with_reducible exact und_bytes | with_reducible exact und_bytess) rfl ?_ | refine OW_convInt (by first | with_reducible exact und_u8 | with_reducible exact und_u64 | with_reducible exact und_int | with_reducible exact und_u32) (by first | with_reducible exact und_u8 | with_reducible exact und_u64 | with_reducible exact und_int | with_reducible exact und_u32) rfl ?_ | refine OW_add rfl rfl ?_ | refine OW_sub rfl rfl ?_ | refine OW_mul rfl rfl ?_ | refine OW_min2 rfl rfl ?_ | refine OW_max2 rfl rfl ?_ | refine OW_neg rfl ?_ | refine CW_block ?_ | refine CW_condT rfl ?_ | refine CW_condF rfl ?_ | refine CW_exit ?_ | refine CW_ret ?_ | refine CW_skip ?_ | refine LW_seq ?_ | refine LW_regC ?_ | refine LW_condC ?_ | refine LW_regF ?_ | refine LW_condF ?_ | refine FW_seq ?_ | refine FW_region (by kernel_rfl) ?_ | refine FW_block ?_ | refine FW_condT rfl ?_ | refine FW_condF rfl ?_ | refine FW_exit ?_ | refine FW_ret ?_ | refine FW_skip ?_ | refine LW_ret ?_ | refine LW_skip ?_ | refine thenE_exit ?_ | refine thenE_ret ?_ | refine inBlockE_normal ?_ | refine inBlockE_same ?_ | refine inBlockE_ret ?_ | refine inBlockE_ne (by rfl) ?_ | refine OW_eqlB (by with_reducible exact und_bool) rfl rfl ?_ | refine OW_neqB (by with_reducible exact und_bool) rfl rfl ?_ | refine OW_idxS (by with_reducible exact und_bytes) one_u8 rfl rfl _ rfl (by omega) ?_ | refine OW_idxS (by with_reducible exact und_bytess) one_bytes rfl rfl _ rfl (by omega) ?_ | refine OW_load1 (by first | with_reducible exact one_u8 | with_reducible exact one_bytes) rfl _ (by assumption) ?_ | refine OW_lenS und_ints rfl ?_ | refine OW_lenS und_strs rfl ?_ | refine OW_idxS und_bytess one_bytes rfl rfl _ rfl (by omega) ?_ | refine OW_idxS und_strs one_str rfl rfl _ rfl (by omega) ?_)
  exact hEnd.out) (k : B) : A := h ⟨k⟩
theorem oy_WalB {A B : Prop} (h : Held B → A := by
  intro hEnd
  repeat (first
    | refine OY_done ?_
    | (apply OY_p _ rfl
       · intro wd
         (first | refine OW_strOf und_bytes und_u8 w_und_string (by apply_assumption; assumption) rfl ?_ | refine OW_neqST rfl rfl (by assumption) ?_ | refine OW_moveV (.int _ _) rfl ?_ | refine OW_moveV (.slice _ _ _) rfl ?_ | refine OW_moveV (.bool _) rfl ?_ | refine OW_moveV (.pointer _) rfl ?_ | refine OW_moveV (.string _) rfl ?_ | refine OW_moveV (.agg _) rfl ?_ | refine OW_moveV (.tuple _) rfl ?_ | refine OW_nil ?_ | refine thenE_normal ?_ | refine CW_seq ?_ | refine CW_region (by kernel_rfl) ?_ | refine OW_assignV (.int _ _) rfl ?_ | refine OW_assignV (.slice _ _ _) rfl ?_ | refine OW_assignV (.bool _) rfl ?_ | refine OW_assignV (.pointer _) rfl ?_ | refine OW_assignV (.string _) rfl ?_ | refine OW_assignV (.agg _) rfl ?_ | refine OW_assignV (.tuple _) rfl ?_ | refine OW_addI rfl rfl (by omega) ?_ | refine OW_subI rfl rfl (by omega) ?_ | refine OW_mulI rfl rfl (by omega) ?_ | refine OW_lss rfl rfl ?_ | refine OW_extract rfl rfl ?_ | refine OW_gtr rfl rfl ?_ | refine OW_leq rfl rfl ?_ | refine OW_geq rfl rfl ?_ | refine OW_eql rfl rfl ?_ | refine OW_neq rfl rfl ?_ | refine OW_not rfl ?_ | refine OW_pickT rfl _ rfl ?_ | refine OW_pickF rfl (.bool _) rfl ?_ | refine OW_pickB rfl rfl rfl ?_ | refine OW_move ?_ | refine OW_assign ?_ | refine OW_pass rfl ?_ | refine OW_take rfl ?_ | refine OW_lenS (by first | with_reducible exact und_bytes | with_reducible exact und_bytess) rfl ?_ | refine OW_convInt (by first | with_reducible exact und_u8 | with_reducible exact und_u64 | with_reducible exact und_int | with_reducible exact und_u32) (by first | with_reducible exact und_u8 | with_reducible exact und_u64 | with_reducible exact und_int | with_reducible exact und_u32) rfl ?_ | refine OW_add rfl rfl ?_ | refine OW_sub rfl rfl ?_ | refine OW_mul rfl rfl ?_ | refine OW_min2 rfl rfl ?_ | refine OW_max2 rfl rfl ?_ | refine OW_neg rfl ?_ | refine CW_block ?_ | refine CW_condT rfl ?_ | refine CW_condF rfl ?_ | refine CW_exit ?_ | refine CW_ret ?_ | refine CW_skip ?_ | refine LW_seq ?_ | refine LW_regC ?_ | refine LW_condC ?_ | refine LW_regF ?_ | refine LW_condF ?_ | refine FW_seq ?_ | refine FW_region (by kernel_rfl) ?_ | refine FW_block ?_ | refine FW_condT rfl ?_ | refine FW_condF rfl ?_ | refine FW_exit ?_ | refine FW_ret ?_ | refine FW_skip ?_ | refine LW_ret ?_ | refine LW_skip ?_ | refine thenE_exit ?_ | refine thenE_ret ?_ | refine inBlockE_normal ?_ | refine inBlockE_same ?_ | refine inBlockE_ret ?_ | refine inBlockE_ne (by rfl) ?_ | refine OW_eqlB (by with_reducible exact und_bool) rfl rfl ?_ | refine OW_neqB (by with_reducible exact und_bool) rfl rfl ?_ | refine OW_idxS (by with_reducible exact und_bytes) one_u8 rfl rfl _ rfl (by omega) ?_ | refine OW_idxS (by with_reducible exact und_bytess) one_bytes rfl rfl _ rfl (by omega) ?_ | refine OW_load1 (by first | with_reducible exact one_u8 | with_reducible exact one_bytes) rfl _ (by assumption) ?_ | refine OW_lenS und_ints rfl ?_ | refine OW_lenS und_strs rfl ?_ | refine OW_idxS und_bytess one_bytes rfl rfl _ rfl (by omega) ?_ | refine OW_idxS und_strs one_str rfl rfl _ rfl (by omega) ?_)
         refine OW_nil ?_
         exact stay_mk _ _ _ _)
    | (apply OY_q _ rfl
       · intro wd hwd
         (first | refine OW_strOf und_bytes und_u8 w_und_string (by apply_assumption; assumption) rfl ?_ | refine OW_neqST rfl rfl (by assumption) ?_ | refine OW_moveV (.int _ _) rfl ?_ | refine OW_moveV (.slice _ _ _) rfl ?_ | refine OW_moveV (.bool _) rfl ?_ | refine OW_moveV (.pointer _) rfl ?_ | refine OW_moveV (.string _) rfl ?_ | refine OW_moveV (.agg _) rfl ?_ | refine OW_moveV (.tuple _) rfl ?_ | refine OW_nil ?_ | refine thenE_normal ?_ | refine CW_seq ?_ | refine CW_region (by kernel_rfl) ?_ | refine OW_assignV (.int _ _) rfl ?_ | refine OW_assignV (.slice _ _ _) rfl ?_ | refine OW_assignV (.bool _) rfl ?_ | refine OW_assignV (.pointer _) rfl ?_ | refine OW_assignV (.string _) rfl ?_ | refine OW_assignV (.agg _) rfl ?_ | refine OW_assignV (.tuple _) rfl ?_ | refine OW_addI rfl rfl (by omega) ?_ | refine OW_subI rfl rfl (by omega) ?_ | refine OW_mulI rfl rfl (by omega) ?_ | refine OW_lss rfl rfl ?_ | refine OW_extract rfl rfl ?_ | refine OW_gtr rfl rfl ?_ | refine OW_leq rfl rfl ?_ | refine OW_geq rfl rfl ?_ | refine OW_eql rfl rfl ?_ | refine OW_neq rfl rfl ?_ | refine OW_not rfl ?_ | refine OW_pickT rfl _ rfl ?_ | refine OW_pickF rfl (.bool _) rfl ?_ | refine OW_pickB rfl rfl rfl ?_ | refine OW_move ?_ | refine OW_assign ?_ | refine OW_pass rfl ?_ | refine OW_take rfl ?_ | refine OW_lenS (by first | with_reducible exact und_bytes | with_reducible exact und_bytess) rfl ?_ | refine OW_convInt (by first | with_reducible exact und_u8 | with_reducible exact und_u64 | with_reducible exact und_int | with_reducible exact und_u32) (by first | with_reducible exact und_u8 | with_reducible exact und_u64 | with_reducible exact und_int | with_reducible exact und_u32) rfl ?_ | refine OW_add rfl rfl ?_ | refine OW_sub rfl rfl ?_ | refine OW_mul rfl rfl ?_ | refine OW_min2 rfl rfl ?_ | refine OW_max2 rfl rfl ?_ | refine OW_neg rfl ?_ | refine CW_block ?_ | refine CW_condT rfl ?_ | refine CW_condF rfl ?_ | refine CW_exit ?_ | refine CW_ret ?_ | refine CW_skip ?_ | refine LW_seq ?_ | refine LW_regC ?_ | refine LW_condC ?_ | refine LW_regF ?_ | refine LW_condF ?_ | refine FW_seq ?_ | refine FW_region (by kernel_rfl) ?_ | refine FW_block ?_ | refine FW_condT rfl ?_ | refine FW_condF rfl ?_ | refine FW_exit ?_ | refine FW_ret ?_ | refine FW_skip ?_ | refine LW_ret ?_ | refine LW_skip ?_ | refine thenE_exit ?_ | refine thenE_ret ?_ | refine inBlockE_normal ?_ | refine inBlockE_same ?_ | refine inBlockE_ret ?_ | refine inBlockE_ne (by rfl) ?_ | refine OW_eqlB (by with_reducible exact und_bool) rfl rfl ?_ | refine OW_neqB (by with_reducible exact und_bool) rfl rfl ?_ | refine OW_idxS (by with_reducible exact und_bytes) one_u8 rfl rfl _ rfl (by omega) ?_ | refine OW_idxS (by with_reducible exact und_bytess) one_bytes rfl rfl _ rfl (by omega) ?_ | refine OW_load1 (by first | with_reducible exact one_u8 | with_reducible exact one_bytes) rfl _ (by assumption) ?_ | refine OW_lenS und_ints rfl ?_ | refine OW_lenS und_strs rfl ?_ | refine OW_idxS und_bytess one_bytes rfl rfl _ rfl (by omega) ?_ | refine OW_idxS und_strs one_str rfl rfl _ rfl (by omega) ?_ | (refine OW_isLoad ?_; refine OW_loadBk (by first | with_reducible exact one_u8 | with_reducible exact one_bytes | with_reducible exact one_bool | with_reducible exact one_int | with_reducible exact one_errno | with_reducible exact one_u32 | with_reducible exact one_u64 | with_reducible exact one_string | with_reducible exact one_str) rfl (by apply_assumption; assumption) _ (by first | assumption | rfl) ?_) | refine OW_load1 (by first | with_reducible exact one_u8 | with_reducible exact one_bytes | with_reducible exact one_bool | with_reducible exact one_int | with_reducible exact one_errno | with_reducible exact one_u32 | with_reducible exact one_u64 | with_reducible exact one_string | with_reducible exact one_str) rfl _ (by apply_assumption; assumption) ?_)
         refine OW_nil ?_
         exact stay_mk _ _ _ _)
    | refine OY_ppass rfl rfl ?_
    | refine OY_qpass rfl rfl ?_
    | (apply OY_ptake _ rfl rfl
       · intro wd
         (first | refine OW_strOf und_bytes und_u8 w_und_string (by apply_assumption; assumption) rfl ?_ | refine OW_neqST rfl rfl (by assumption) ?_ | refine OW_moveV (.int _ _) rfl ?_ | refine OW_moveV (.slice _ _ _) rfl ?_ | refine OW_moveV (.bool _) rfl ?_ | refine OW_moveV (.pointer _) rfl ?_ | refine OW_moveV (.string _) rfl ?_ | refine OW_moveV (.agg _) rfl ?_ | refine OW_moveV (.tuple _) rfl ?_ | refine OW_nil ?_ | refine thenE_normal ?_ | refine CW_seq ?_ | refine CW_region (by kernel_rfl) ?_ | refine OW_assignV (.int _ _) rfl ?_ | refine OW_assignV (.slice _ _ _) rfl ?_ | refine OW_assignV (.bool _) rfl ?_ | refine OW_assignV (.pointer _) rfl ?_ | refine OW_assignV (.string _) rfl ?_ | refine OW_assignV (.agg _) rfl ?_ | refine OW_assignV (.tuple _) rfl ?_ | refine OW_addI rfl rfl (by omega) ?_ | refine OW_subI rfl rfl (by omega) ?_ | refine OW_mulI rfl rfl (by omega) ?_ | refine OW_lss rfl rfl ?_ | refine OW_extract rfl rfl ?_ | refine OW_gtr rfl rfl ?_ | refine OW_leq rfl rfl ?_ | refine OW_geq rfl rfl ?_ | refine OW_eql rfl rfl ?_ | refine OW_neq rfl rfl ?_ | refine OW_not rfl ?_ | refine OW_pickT rfl _ rfl ?_ | refine OW_pickF rfl (.bool _) rfl ?_ | refine OW_pickB rfl rfl rfl ?_ | refine OW_move ?_ | refine OW_assign ?_ | refine OW_pass rfl ?_ | refine OW_take rfl ?_ | refine OW_lenS (by first | with_reducible exact und_bytes | with_reducible exact und_bytess) rfl ?_ | refine OW_convInt (by first | with_reducible exact und_u8 | with_reducible exact und_u64 | with_reducible exact und_int | with_reducible exact und_u32) (by first | with_reducible exact und_u8 | with_reducible exact und_u64 | with_reducible exact und_int | with_reducible exact und_u32) rfl ?_ | refine OW_add rfl rfl ?_ | refine OW_sub rfl rfl ?_ | refine OW_mul rfl rfl ?_ | refine OW_min2 rfl rfl ?_ | refine OW_max2 rfl rfl ?_ | refine OW_neg rfl ?_ | refine CW_block ?_ | refine CW_condT rfl ?_ | refine CW_condF rfl ?_ | refine CW_exit ?_ | refine CW_ret ?_ | refine CW_skip ?_ | refine LW_seq ?_ | refine LW_regC ?_ | refine LW_condC ?_ | refine LW_regF ?_ | refine LW_condF ?_ | refine FW_seq ?_ | refine FW_region (by kernel_rfl) ?_ | refine FW_block ?_ | refine FW_condT rfl ?_ | refine FW_condF rfl ?_ | refine FW_exit ?_ | refine FW_ret ?_ | refine FW_skip ?_ | refine LW_ret ?_ | refine LW_skip ?_ | refine thenE_exit ?_ | refine thenE_ret ?_ | refine inBlockE_normal ?_ | refine inBlockE_same ?_ | refine inBlockE_ret ?_ | refine inBlockE_ne (by rfl) ?_ | refine OW_eqlB (by with_reducible exact und_bool) rfl rfl ?_ | refine OW_neqB (by with_reducible exact und_bool) rfl rfl ?_ | refine OW_idxS (by with_reducible exact und_bytes) one_u8 rfl rfl _ rfl (by omega) ?_ | refine OW_idxS (by with_reducible exact und_bytess) one_bytes rfl rfl _ rfl (by omega) ?_ | refine OW_load1 (by first | with_reducible exact one_u8 | with_reducible exact one_bytes) rfl _ (by assumption) ?_ | refine OW_lenS und_ints rfl ?_ | refine OW_lenS und_strs rfl ?_ | refine OW_idxS und_bytess one_bytes rfl rfl _ rfl (by omega) ?_ | refine OW_idxS und_strs one_str rfl rfl _ rfl (by omega) ?_)
         refine OW_nil ?_
         exact stay_mk _ _ _ _)
    | (apply OY_qtake _ rfl rfl
       · intro wd hwd
         (first | refine OW_strOf und_bytes und_u8 w_und_string (by apply_assumption; assumption) rfl ?_ | refine OW_neqST rfl rfl (by assumption) ?_ | refine OW_moveV (.int _ _) rfl ?_ | refine OW_moveV (.slice _ _ _) rfl ?_ | refine OW_moveV (.bool _) rfl ?_ | refine OW_moveV (.pointer _) rfl ?_ | refine OW_moveV (.string _) rfl ?_ | refine OW_moveV (.agg _) rfl ?_ | refine OW_moveV (.tuple _) rfl ?_ | refine OW_nil ?_ | refine thenE_normal ?_ | refine CW_seq ?_ | refine CW_region (by kernel_rfl) ?_ | refine OW_assignV (.int _ _) rfl ?_ | refine OW_assignV (.slice _ _ _) rfl ?_ | refine OW_assignV (.bool _) rfl ?_ | refine OW_assignV (.pointer _) rfl ?_ | refine OW_assignV (.string _) rfl ?_ | refine OW_assignV (.agg _) rfl ?_ | refine OW_assignV (.tuple _) rfl ?_ | refine OW_addI rfl rfl (by omega) ?_ | refine OW_subI rfl rfl (by omega) ?_ | refine OW_mulI rfl rfl (by omega) ?_ | refine OW_lss rfl rfl ?_ | refine OW_extract rfl rfl ?_ | refine OW_gtr rfl rfl ?_ | refine OW_leq rfl rfl ?_ | refine OW_geq rfl rfl ?_ | refine OW_eql rfl rfl ?_ | refine OW_neq rfl rfl ?_ | refine OW_not rfl ?_ | refine OW_pickT rfl _ rfl ?_ | refine OW_pickF rfl (.bool _) rfl ?_ | refine OW_pickB rfl rfl rfl ?_ | refine OW_move ?_ | refine OW_assign ?_ | refine OW_pass rfl ?_ | refine OW_take rfl ?_ | refine OW_lenS (by first | with_reducible exact und_bytes | with_reducible exact und_bytess) rfl ?_ | refine OW_convInt (by first | with_reducible exact und_u8 | with_reducible exact und_u64 | with_reducible exact und_int | with_reducible exact und_u32) (by first | with_reducible exact und_u8 | with_reducible exact und_u64 | with_reducible exact und_int | with_reducible exact und_u32) rfl ?_ | refine OW_add rfl rfl ?_ | refine OW_sub rfl rfl ?_ | refine OW_mul rfl rfl ?_ | refine OW_min2 rfl rfl ?_ | refine OW_max2 rfl rfl ?_ | refine OW_neg rfl ?_ | refine CW_block ?_ | refine CW_condT rfl ?_ | refine CW_condF rfl ?_ | refine CW_exit ?_ | refine CW_ret ?_ | refine CW_skip ?_ | refine LW_seq ?_ | refine LW_regC ?_ | refine LW_condC ?_ | refine LW_regF ?_ | refine LW_condF ?_ | refine FW_seq ?_ | refine FW_region (by kernel_rfl) ?_ | refine FW_block ?_ | refine FW_condT rfl ?_ | refine FW_condF rfl ?_ | refine FW_exit ?_ | refine FW_ret ?_ | refine FW_skip ?_ | refine LW_ret ?_ | refine LW_skip ?_ | refine thenE_exit ?_ | refine thenE_ret ?_ | refine inBlockE_normal ?_ | refine inBlockE_same ?_ | refine inBlockE_ret ?_ | refine inBlockE_ne (by rfl) ?_ | refine OW_eqlB (by with_reducible exact und_bool) rfl rfl ?_ | refine OW_neqB (by with_reducible exact und_bool) rfl rfl ?_ | refine OW_idxS (by with_reducible exact und_bytes) one_u8 rfl rfl _ rfl (by omega) ?_ | refine OW_idxS (by with_reducible exact und_bytess) one_bytes rfl rfl _ rfl (by omega) ?_ | refine OW_load1 (by first | with_reducible exact one_u8 | with_reducible exact one_bytes) rfl _ (by assumption) ?_ | refine OW_lenS und_ints rfl ?_ | refine OW_lenS und_strs rfl ?_ | refine OW_idxS und_bytess one_bytes rfl rfl _ rfl (by omega) ?_ | refine OW_idxS und_strs one_str rfl rfl _ rfl (by omega) ?_ | (refine OW_isLoad ?_; refine OW_loadBk (by first | with_reducible exact one_u8 | with_reducible exact one_bytes | with_reducible exact one_bool | with_reducible exact one_int | with_reducible exact one_errno | with_reducible exact one_u32 | with_reducible exact one_u64 | with_reducible exact one_string | with_reducible exact one_str) rfl (by apply_assumption; assumption) _ (by first | assumption | rfl) ?_) | refine OW_load1 (by first | with_reducible exact one_u8 | with_reducible exact one_bytes | with_reducible exact one_bool | with_reducible exact one_int | with_reducible exact one_errno | with_reducible exact one_u32 | with_reducible exact one_u64 | with_reducible exact one_string | with_reducible exact one_str) rfl _ (by apply_assumption; assumption) ?_)
         refine OW_nil ?_
         exact stay_mk _ _ _ _)
    | refine OY_a (actY_of rfl ?_)
    | refine OY_d (actY_of rfl ?_)
    | refine OY_a (actY_pass rfl rfl ?_)
    | refine OY_d (actY_pass rfl rfl ?_)
    | refine OY_a (actY_take rfl rfl ?_)
    | refine OY_d (actY_take rfl rfl ?_))
  exact hEnd.out) (k : B) : A := h ⟨k⟩
theorem und_strs : Try.prog.underlying 90 = some (.slice 9) := Try.underlying90
theorem one_str : OneT Try.prog 9 := ⟨.string ⟨#[]⟩, 16, by kernel_rfl, rfl, by kernel_rfl⟩
theorem w_und_string : Try.prog.underlying 9 = some .string := Try.underlying9
section
variable {P : Program} {ops : Array Oper} {Q : Exit → (Nat → Value) → World → Prop} {rest : List Oper} {e : Nat → Value} {w : World} {d : Tmp} {ty : TypeId} {pos : String} {aft : Array Edge}
theorem OW_neqST {x y : Operand} {t t' : TypeId} {a b : ByteArray} (hx : ev e x = .string a) (hy : ev e y = .string b) (hab : a = b) (h : OW P ops Q rest (upd e d (.bool false)) w) : OW P ops Q (⟨some d, .binOp .neq t x y t', ty, pos, aft, none⟩ :: rest) e w := by
  refine OW_neqS hx hy ?_
  rw [decide_eq_true hab]
  exact h
end
/-- Wals (vs) on one disk (g), in play; lists that were told of it. -/
def VPly (w0 w : World) (vs : List Nat) (g : Nat) (d : DS) (rows : List (Option Addr × List BV)) : Prop :=
  ∃ S, DR w g S d ∧ (∀ v ∈ vs, VB w v g ∧ ¬ S v) ∧ (∀ r ∈ rows, ∀ u, Keeps w u S → ArgL u r.1 r.2) ∧ (∀ k, S k → w0.heap.size ≤ k) ∧ Ext w0 w
section
variable {w0 w w' : World} {vs : List Nat} {g : Nat} {d : DS} {rows : List (Option Addr × List BV)} {f : FuncId} {args : Array Value}
theorem VPly.to (h : VPly w0 w vs g d rows) : Ext w0 w := by obtain ⟨S, h1, h2, h3, h4, h5⟩ := h; exact h5
theorem VPly.arg (h : VPly w0 w vs g d rows) {A : Option Addr} {us : List BV} (hr : (A, us) ∈ rows) : ArgL w A us := by obtain ⟨S, h1, h2, h3, h4, h5⟩ := h; exact h3 _ hr _ (Keeps.rfl' _ _)
theorem VPly.ext (h : VPly w0 w vs g d rows) (hx : Ext w w') : VPly w0 w' vs g d rows := by
  obtain ⟨S, h1, h2, h3, h4, h5⟩ := h
  exact ⟨S, h1.ext hx, fun v hv => ⟨(h2 v hv).1.ext hx, (h2 v hv).2⟩, fun r hr u hu => h3 r hr u ((Keeps.of_ext hx S).trans' hu), h4, h5.trans' hx⟩
/-- A call that turns the disk. -/
theorem VPly.call (x : Int × DS) (h : VPly w0 w vs g d rows) (hc : ∀ S, DR w g S d → (∀ v ∈ vs, VB w v g ∧ ¬ S v) → (∀ k, S k → w0.heap.size ≤ k) → Calls Try.prog f args w (MP w g S x)) : Calls Try.prog f args w (fun en w' => en = .returned (.int .i64 x.1) ∧ VPly w0 w' vs g x.2 rows) := by
  obtain ⟨S, h1, h2, h3, h4, h5⟩ := h
  refine (hc S h1 h2 h4).mono ?_
  rintro en w' ⟨q1, q2, q3⟩
  refine ⟨q1, more S w w', q2, fun v hv => ⟨(h2 v hv).1.keeps q3 (h2 v hv).2, fun hh => ?_⟩, fun r hr u hu => h3 r hr u (q3.trans_more hu), fun k hk => ?_, q3.ext h5 h4⟩
  · rcases hh with hh | hh
    · exact (h2 v hv).2 hh
    · have := (h2 v hv).1.lt; omega
  · rcases hk with hk | hk
    · exact h4 k hk
    · have := h5.size; omega
theorem VPly.use {R : Ending → World → Prop} (h : VPly w0 w vs g d rows) (hc : ∀ S, DR w g S d → (∀ v ∈ vs, VB w v g ∧ ¬ S v) → Calls Try.prog f args w R) : Calls Try.prog f args w R := by
  obtain ⟨S, h1, h2, h3, h4, h5⟩ := h
  exact hc S h1 h2
theorem VPly.add0 {v : Nat} (h : VPly w0 w vs g d rows) (hv : v ∈ vs) (hn : d.ws.length ≤ 1000000) (A : Option Addr) (c : Nat) (b : List UInt8) (hb : Bs w0 A b) (hl : b.length ≤ 65536) :
    Calls Try.prog 17 #[.pointer (some ⟨v, 0, none⟩), .slice A b.length c] w (fun en w' => en = .returned (.int .i64 (dWrite d (frameB b)).1) ∧ VPly w0 w' vs g (dWrite d (frameB b)).2 rows) := by
  have hx := h.to
  exact h.call _ fun S hD hV hS => vAdd_any w v g S d hD (hV v hv).1 (hV v hv).2 hn A c b (fun u hu => hb.ext (hu.ext hx hS)) hl
/-- The record stands in a block that was made just now. -/
theorem VPly.addN {v : Nat} {gb : Nat} (h : VPly w0 w vs g d rows) (hv : v ∈ vs) (hn : d.ws.length ≤ 1000000) (w1 : World) (hx : Ext w w1) (b : List UInt8) (c : Nat) (hb : Bs w1 (some ⟨gb, 0, none⟩) b) (hg : w.heap.size ≤ gb) (hl : b.length ≤ 65536) :
    Calls Try.prog 17 #[.pointer (some ⟨v, 0, none⟩), .slice (some ⟨gb, 0, none⟩) b.length c] w1 (fun en w' => en = .returned (.int .i64 (dWrite d (frameB b)).1) ∧ VPly w0 w' vs g (dWrite d (frameB b)).2 rows) := by
  obtain ⟨S, h1, h2, h3, h4, h5⟩ := h
  have hbd := h1.bd
  have h' : VPly w0 w1 vs g d rows := VPly.ext ⟨S, h1, h2, h3, h4, h5⟩ hx
  have hd1 := h1.ext hx
  have key : Calls Try.prog 17 #[.pointer (some ⟨v, 0, none⟩), .slice (some ⟨gb, 0, none⟩) b.length c] w1 (MP w1 g S (dWrite d (frameB b))) :=
    vAdd_any w1 v g S d hd1 ((h2 v hv).1.ext hx) (h2 v hv).2 hn _ c b (fun u hu => hb.keeps hu (fun ad ha hh => by cases ha; have := hbd _ hh; simp only at this; omega)) hl
  refine key.mono ?_
  rintro en w' ⟨q1, q2, q3⟩
  refine ⟨q1, more S w1 w', q2, fun u hu => ⟨((h2 u hu).1.ext hx).keeps q3 (h2 u hu).2, fun hh => ?_⟩, fun r hr u hu => h3 r hr u (((Keeps.of_ext hx S).trans' q3).trans_more (hu.mono fun k _ hk => ?_)), fun k hk => ?_, q3.ext (h5.trans' hx) h4⟩
  · rcases hh with hh | hh
    · exact (h2 u hu).2 hh
    · have := ((h2 u hu).1.ext hx).lt; omega
  · have := hx.size
    rcases hk with hk | hk
    · exact .inl hk
    · exact .inr ⟨by omega, hk.2⟩
  · have := h5.size
    have := hx.size
    rcases hk with hk | hk
    · exact h4 k hk
    · omega
theorem VPly.sync {v : Nat} (h : VPly w0 w vs g d rows) (hv : v ∈ vs) (hl : d.all.length ≤ 1000000) (hn : d.ws.length ≤ 1000000) :
    Calls Try.prog 20 #[.pointer (some ⟨v, 0, none⟩)] w (fun en w' => en = .returned (.int .i64 (dSync d).1) ∧ VPly w0 w' vs g (dSync d).2 rows) :=
  h.call _ fun S hD hV hS => vSync_any w v g S d hD (hV v hv).1 (hV v hv).2 hl hn
theorem VPly.records {v : Nat} (h : VPly w0 w vs g d rows) (hv : v ∈ vs) (ps : List (List UInt8)) (hps : IsAll d.all ps) (hl : d.all.length ≤ 100000) (hn : d.ws.length ≤ 1000000) :
    Calls Try.prog 18 #[.pointer (some ⟨v, 0, none⟩)] w (fun en w' => ∃ A c us, en = .returned (.slice A us.length c) ∧ us.map pay = ps ∧ VPly w0 w' vs g d ((A, us) :: rows) ∧ RowsB w' w.heap.size A c us ∧ Ext w w') := by
  obtain ⟨S, h1, h2, h3, h4, h5⟩ := h
  have hbd := h1.bd
  refine (vRecords_any w v g S d h1 (h2 v hv).1 hl hn).mono ?_
  rintro en w' ⟨A, c, us, rfl, ha, hr, hx⟩
  refine ⟨A, c, us, rfl, isAll_uniq ha hps, ⟨S, h1.ext hx, fun u hu => ⟨(h2 u hu).1.ext hx, (h2 u hu).2⟩, fun r hr2 u hu => ?_, h4, h5.trans' hx⟩, hr, hx⟩
  rcases List.mem_cons.1 hr2 with rfl | hr2
  · exact (hr.keeps hu (fun ad ha hh => by have := (own_block hr.row ad ha).1; have := hbd _ hh; omega) (fun v hv k hk hh => by have := ((hr.each v hv).lt hk).1; have := hbd _ hh; omega)).arg
  · exact h3 r hr2 u ((Keeps.of_ext hx S).trans' hu)
theorem VPly.lasting {v : Nat} (h : VPly w0 w vs g d rows) (hv : v ∈ vs) (ps : List (List UInt8)) (hps : IsAll d.s ps) (hl : d.all.length ≤ 100000) (hn : d.ws.length ≤ 1000000) :
    Calls Try.prog 21 #[.pointer (some ⟨v, 0, none⟩)] w (RetV w (.int .i64 ps.length)) := by
  obtain ⟨S, h1, h2, h3, h4, h5⟩ := h
  refine (vLasting_any w v g S d h1 (h2 v hv).1 hl hn).mono ?_
  rintro en w' ⟨qs, ha, rfl, hx⟩
  rw [isAll_uniq ha hps]
  exact ⟨rfl, hx⟩
theorem VPly.recover {v : Nat} (h : VPly w0 w vs g d rows) (hv : v ∈ vs) (hu : d.up = true) (ps : List (List UInt8)) (hps : IsAll d.all ps) (hl : d.all.length ≤ 100000) (hn : d.ws.length ≤ 1000000) :
    Calls Try.prog 34 #[.pointer (some ⟨v, 0, none⟩)] w (fun en w' => ∃ A us, en = .returned (.tuple #[.slice A us.length us.length, .int .i64 ((d.all.length : Int) - (framesB ps).length), .int .i64 0]) ∧ us.map pay = ps ∧ VPly w0 w' vs g (rcvD d ps) ((A, us) :: rows)) := by
  obtain ⟨S, h1, h2, h3, h4, h5⟩ := h
  have hbd := h1.bd
  refine (vRecover_any w v g S d h1 (h2 v hv).1 (h2 v hv).2 hu hl hn).mono ?_
  rintro en w' ⟨A, us, S', rfl, ha, hd, hS, hk, hr⟩
  have he := isAll_uniq ha hps
  rw [he] at hd ⊢
  refine ⟨A, us, rfl, he, S', hd, fun u hu => ⟨(h2 u hu).1.keeps hk (h2 u hu).2, fun hh => ?_⟩, fun r hr2 u hu => ?_, fun k hk2 => ?_, hk.ext h5 h4⟩
  · rcases hS _ hh with hh | hh
    · exact (h2 u hu).2 hh
    · have := (h2 u hu).1.lt; omega
  · rcases List.mem_cons.1 hr2 with rfl | hr2
    · exact hr u (hu.mono fun k _ h => .inl h)
    · refine h3 r hr2 u ⟨hu.os.trans hk.os, hu.tape.trans hk.tape, hu.output.trans hk.output, Nat.le_trans hk.size hu.size, fun k hk1 hk2 => ?_⟩
      have hz := hk.size
      rw [hu.block k (by omega) (fun hh => by rcases hS k hh with hh | hh; exact hk2 hh; omega), hk.block k hk1 hk2]
  · rcases hS k hk2 with hh | hh
    · exact h4 k hh
    · have := h5.size; omega
end
theorem newWal_ply (w0 w : World) (hx0 : Ext w0 w) : Calls Try.prog 15 #[] w (fun en w' => ∃ g, en = .returned (.pointer (some ⟨g, 0, none⟩)) ∧ Ext w w' ∧ VPly w0 w' [] g dNew []) :=
  (newDisk_any w).mono fun en w' ⟨g, h1, h2, h3, h4⟩ => ⟨g, h1, h3, _, h4, fun v hv => (by simp at hv), fun r hr => (by simp at hr), fun k hk => by rcases hk with hk | hk; exact hk.elim; have := hx0.size; omega, hx0.trans' h3⟩
/-- One wal more on the disk. -/
theorem VPly.wal {w0 w : World} {vs : List Nat} {g : Nat} {d : DS} {rows : List (Option Addr × List BV)} (h : VPly w0 w vs g d rows) : Calls Try.prog 16 #[.pointer (some ⟨g, 0, none⟩)] w (fun en w' => ∃ v, en = .returned (.pointer (some ⟨v, 0, none⟩)) ∧ Ext w w' ∧ VPly w0 w' (v :: vs) g d rows) := by
  obtain ⟨S, h1, h2, h3, h4, h5⟩ := h
  have hbd := h1.bd
  refine (walNew_any w _).mono ?_
  rintro en w' ⟨v, rfl, hb, hv, hlt, hx⟩
  refine ⟨v, rfl, hx, S, h1.ext hx, fun u hu => ?_, fun r hr u hu => h3 r hr u ((Keeps.of_ext hx S).trans' hu), h4, h5.trans' hx⟩
  rcases List.mem_cons.1 hu with rfl | hu
  · exact ⟨hb, fun hh => by have := hbd _ hh; omega⟩
  · exact ⟨(h2 u hu).1.ext hx, (h2 u hu).2⟩
set_option maxHeartbeats 8000000 in
theorem are_any (w : World) (A B : Option Addr) (c d : Nat) (vs : List BV) (ss : List ByteArray) (h1 : ArgL w A vs) (h2 : Rd w B (ss.map Value.string)) (he : vs.map pay = ss.map (fun s => s.data.toList)) (hl : vs.length ≤ 100000) :
    Calls Try.prog 44 #[.slice A vs.length c, .slice B ss.length d] w (RetV w (.bool true)) := by
  have hn : vs.length = ss.length := by simpa using congrArg List.length he
  refine calls_of_CW Try.func44 rfl (by simp [Try.ntmps44]) ?_
  rw [Try.ntmps44]
  refine go_WalB (k := ?_)
  refine CW_cond _ rfl (fun h => ?_) (fun h => ?_)
  · rw [hn] at h; simp at h
  clear h
  refine go_WalB (k := ?_)
  refine CW_loop (fun e' w' => ∃ k : Nat, k ≤ vs.length ∧ e' 0 = .slice A vs.length c ∧ e' 1 = .slice B ss.length d ∧ e' 5 = .int .i64 k ∧ Ext w w') (fun e' _ => vs.length - (intOf (e' 5)).toNat) ?_ ?_
  · exact ⟨0, by omega, rfl, rfl, rfl, Ext.rfl' w⟩
  rintro e1 w1 ⟨k, hk, q0, q1, q5, hx⟩
  rw [upd_self q0, upd_self q1, upd_self q5]
  refine go_WalB (k := ?_)
  refine CW_cond _ rfl (fun h => ?_) (fun h => ?_)
  · have hlt : k < vs.length := by simpa using h
    clear h
    have hls : k < ss.length := by omega
    obtain ⟨ad, rfl, hcA⟩ := (h1.ext hx).cell hlt
    obtain ⟨bd, rfl, hcB⟩ := (h2.ext hx).at_ (j := k) (by simpa using hls)
    have hbA := (h1.bs _ (List.getElem_mem hlt)).1.ext hx
    have hxy : (⟨(vs[k]).2.2.toArray⟩ : ByteArray) = ss[k] := by
      have := congrArg (fun l => l[k]?) he
      simp only [List.getElem?_map, List.getElem?_eq_getElem hlt, List.getElem?_eq_getElem hls, Option.map_some] at this
      injection this with this
      have h9 : (vs[k]).2.2 = (ss[k]).data.toList := this
      rw [h9]
    rw [List.getElem_map] at hcB
    generalize vs[k] = x at *
    generalize ss[k] = y at *
    obtain ⟨xA, xc, xl⟩ := x
    replace hcA : w1.cell? (ad.add k) = some (.slice xA xl.length xc) := hcA
    simp only at hbA hxy
    refine go_WalB (k := ?_)
    obtain ⟨C, hC⟩ : ∃ C : World → Prop, C = fun v => Ext w1 v := ⟨_, rfl⟩
    have yA : ∀ v, C v → v.cell? (ad.add k) = some (.slice xA xl.length xc) := cellE hC hcA
    have yB : ∀ v, C v → v.cell? (bd.add k) = some (.string y) := cellE hC hcB
    have yS : ∀ v, C v → Bs v xA xl := by rw [hC]; exact fun v hv => hbA.ext hv
    refine CW_tree2 [3, 4, 8] (.p 0 (.p 1 (.p 2 (.q 3 (.q 4 (.p 5 (.p 6 (.p 7 (.q 8 (.p 9 .done)))))))))) (C) (by kernel_rfl) (by kernel_rfl) (by kernel_rfl) ?_ ?_
    · exact inE hC
    intro w2 hx2 hC2
    refine oy_WalB (k := ?_)
    refine go_WalB (k := ?_)
    refine ⟨⟨k + 1, hlt, rfl, rfl, rfl, hx.trans' hx2⟩, ?_⟩
    show vs.length - ((k : Int) + 1).toNat < vs.length - (k : Int).toNat
    omega
  · refine go_WalB (k := ?_)
    exact bodyE_ret1 rfl (.bool true) rfl ⟨rfl, hx⟩
set_option maxHeartbeats 8000000 in
theorem same7_any (w : World) (A B : Option Addr) (c d : Nat) (vs us : List BV) (h1 : ArgL w A vs) (h2 : ArgL w B us) (hl : vs.length ≤ 100000 ∧ us.length ≤ 100000) (hv : ∀ v ∈ vs, v.2.2.length ≤ 1000000) (hle : vs.length ≤ us.length) (he : ∀ (i : Nat) (h : i < vs.length), (vs[i]).2.2 = (us[i]'(by omega)).2.2) :
    Calls Try.prog 19 #[.slice A vs.length c, .slice B us.length d] w (RetV w (.bool true)) := by
  refine calls_of_CW Try.func19 rfl (by simp [Try.ntmps19]) ?_
  rw [Try.ntmps19]
  refine go_WalB (k := ?_)
  refine CW_cond _ rfl (fun h => ?_) (fun h => ?_)
  · have := of_decide_eq_true h; omega
  clear h
  refine go_WalB (k := ?_)
  refine CW_loop (fun e' w' => ∃ k : Nat, k ≤ vs.length ∧ e' 0 = .slice A vs.length c ∧ e' 1 = .slice B us.length d ∧ e' 5 = .int .i64 k ∧ Ext w w') (fun e' _ => vs.length - (intOf (e' 5)).toNat) ?_ ?_
  · exact ⟨0, by omega, rfl, rfl, rfl, Ext.rfl' w⟩
  rintro e1 w1 ⟨k, hk, q0, q1, q5, hx⟩
  rw [upd_self q0, upd_self q1, upd_self q5]
  refine go_WalB (k := ?_)
  refine CW_cond _ rfl (fun h => ?_) (fun h => ?_)
  · have hlt : k < vs.length := by simpa using h
    clear h
    have hlu : k < us.length := by omega
    obtain ⟨ad, rfl, hcA⟩ := (h1.ext hx).cell hlt
    obtain ⟨bd, rfl, hcB⟩ := (h2.ext hx).cell hlu
    have hbA := (h1.bs _ (List.getElem_mem hlt)).1.ext hx
    have hcapA := (h1.bs _ (List.getElem_mem hlt)).2
    have hbB := (h2.bs _ (List.getElem_mem hlu)).1.ext hx
    have hvA := hv _ (List.getElem_mem hlt)
    have hxy := he k hlt
    generalize vs[k] = x at *
    generalize us[k] = y at *
    obtain ⟨xA, xc, xl⟩ := x
    obtain ⟨yA, yc, yl⟩ := y
    replace hcA : w1.cell? (ad.add k) = some (.slice xA xl.length xc) := hcA
    replace hcB : w1.cell? (bd.add k) = some (.slice yA yl.length yc) := hcB
    simp only at hbA hbB hvA hxy hcapA
    subst hxy
    refine go_WalB (k := ?_)
    obtain ⟨C, hC⟩ : ∃ C : World → Prop, C = fun v => Ext w1 v := ⟨_, rfl⟩
    have y_hcA := cellE hC hcA
    have y_hcB := cellE hC hcB
    refine CW_tree2 [3, 7] (.p 0 (.p 1 (.p 2 (.q 3 (.p 4 (.p 5 (.p 6 (.q 7 (.d 8 (.p 9 .done)))))))))) (C) (by kernel_rfl) (by kernel_rfl) (by kernel_rfl) ?_ ?_
    · exact inE hC
    intro w2 hx2 h_C
    refine oy_WalB (k := ?_)
    refine OW_callV Try.func38 (by kernel_rfl) rfl (sameL_any w2 xA yA xl xl xc yc (hbA.ext hx2) (hbB.ext hx2) hcapA hvA) rfl ?_
    intro w3 hx3
    rw [beq_self_eq_true]
    first | refine OW_nil (goY_mkE hC (hx2.trans' hx3) ?_) | refine OW_nil (goY_dropE hC (hx2.trans' hx3) ?_)
    refine oy_WalB (k := ?_)
    refine go_WalB (k := ?_)
    refine ⟨⟨k + 1, hlt, rfl, rfl, rfl, (hx.trans' hx2).trans' hx3⟩, ?_⟩
    show vs.length - ((k : Int) + 1).toNat < vs.length - (k : Int).toNat
    omega
  · refine go_WalB (k := ?_)
    exact bodyE_ret1 rfl (.bool true) rfl ⟨rfl, hx⟩
set_option maxHeartbeats 8000000 in
theorem long7_any (w : World) (A : Option Addr) (c : Nat) (vs : List BV) (h : ArgL w A vs) (hl : vs.length ≤ 140737488351232) (hv : ∀ v ∈ vs, v.2.2.length ≤ 140737488351232) :
    Calls Try.prog 14 #[.slice A vs.length c] w (RetV w (.bool (decide (2000 < worth 40 vs)))) := by
  refine calls_of_CW Try.func14 rfl (by simp [Try.ntmps14]) ?_
  rw [Try.ntmps14]
  refine go_WalB (k := ?_)
  refine CW_loop (fun e' w' => ∃ k : Nat, k ≤ vs.length ∧ e' 0 = .slice A vs.length c ∧ e' 3 = .int .i64 (worth 40 (vs.take k)) ∧ e' 4 = .int .i64 k ∧ worth 40 (vs.take k) ≤ 2000 ∧ w' = w) (fun e' _ => vs.length - (intOf (e' 4)).toNat) ?_ ?_
  · exact ⟨0, by omega, rfl, rfl, rfl, by simp [worth], rfl⟩
  rintro e1 w1 ⟨k, hk, q0, q3, q4, hle, rfl⟩
  rw [upd_self q0, upd_self q3, upd_self q4]
  refine go_WalB (k := ?_)
  refine CW_cond _ rfl (fun hh => ?_) (fun hh => ?_)
  · have hlt : k < vs.length := by simpa using hh
    clear hh
    obtain ⟨ad, rfl, hcA⟩ := h.cell hlt
    have hvA := hv _ (List.getElem_mem hlt)
    have hs : worth 40 (vs.take (k + 1)) = worth 40 (vs.take k) + ((vs[k]).2.2.length + 40) := by rw [take_succ_get _ _ hlt, worth_snoc]
    have ht := worth_take_le 40 vs (k + 1)
    generalize vs[k] = x at *
    obtain ⟨xA, xc, xl⟩ := x
    replace hcA : w1.cell? (ad.add k) = some (.slice xA xl.length xc) := hcA
    simp only at hvA hs
    refine go_WalB (k := ?_)
    refine CW_cond _ rfl (fun h2 => ?_) (fun h2 => ?_)
    · have hgt : 2000 < worth 40 vs := by have := of_decide_eq_true h2; omega
      rw [decide_eq_true hgt]
      refine go_WalB (k := ?_)
      exact bodyE_ret1 rfl (.bool true) rfl ⟨rfl, Ext.rfl' _⟩
    · have hle2 : worth 40 (vs.take (k + 1)) ≤ 2000 := by have := of_decide_eq_false h2; omega
      refine go_WalB (k := ?_)
      refine ⟨⟨k + 1, hlt, rfl, by rw [hs]; simp only [Int.natCast_add]; rw [Int.add_assoc]; rfl, rfl, hle2, rfl⟩, ?_⟩
      show vs.length - ((k : Int) + 1).toNat < vs.length - (k : Int).toNat
      omega
  · have hge : k = vs.length := by simp at hh; omega
    subst hge
    rw [List.take_length] at hle
    rw [decide_eq_false (by omega)]
    refine go_WalB (k := ?_)
    exact bodyE_ret1 rfl (.bool false) rfl ⟨rfl, Ext.rfl' _⟩
end Go.Proofs.Ytnfeibbnjdegfaa

/- Walks: the chapter's examples of the wal. -/
namespace Go.Proofs.Ytnfeibbnjdegfaa
open Go Go.RowKit
set_option linter.unusedVariables false
set_option maxRecDepth 4000
theorem go_WalC {A B : Prop} (h : Held B → A := by
  intro hEnd
  repeat (first | refine OW_neqF rfl rfl rfl ?_ | refine OW_eqlTr rfl rfl rfl ?_ | refine OW_moveV (.int _ _) rfl ?_ | refine OW_moveV (.slice _ _ _) rfl ?_ | refine OW_moveV (.bool _) rfl ?_ | refine OW_moveV (.pointer _) rfl ?_ | refine OW_moveV (.string _) rfl ?_ | refine OW_moveV (.agg _) rfl ?_ | refine OW_moveV (.tuple _) rfl ?_ | refine OW_nil ?_ | refine thenE_normal ?_ | refine CW_seq ?_ | refine CW_region (by kernel_rfl) ?_ | refine OW_assignV (.int _ _) rfl ?_ | refine OW_assignV (.slice _ _ _) rfl ?_ | refine OW_assignV (.bool _) rfl ?_ | refine OW_assignV (.pointer _) rfl ?_ | refine OW_assignV (.string _) rfl ?_ | refine OW_assignV (.agg _) rfl ?_ | refine OW_assignV (.tuple _) rfl ?_ | refine OW_addI rfl rfl (by omega) ?_ | refine OW_subI rfl rfl (by omega) ?_ | refine OW_mulI rfl rfl (by omega) ?_ | refine OW_lss rfl rfl ?_ | refine OW_extract rfl rfl ?_ | refine OW_gtr rfl rfl ?_ | refine OW_leq rfl rfl ?_ | refine OW_geq rfl rfl ?_ | refine OW_eql rfl rfl ?_ | refine OW_neq rfl rfl ?_ | refine OW_not rfl ?_ | refine OW_pickT rfl _ rfl ?_ | refine OW_pickF rfl (.bool _) rfl ?_ | refine OW_pickB rfl rfl rfl ?_ | refine OW_move ?_ | refine OW_assign ?_ | refine OW_pass rfl ?_ | refine OW_take rfl ?_ | refine OW_lenS (by first | with_reducible exact und_bytes | with_reducible exact und_bytess) rfl ?_ | refine OW_convInt (by first | with_reducible exact und_u8 | with_reducible exact und_u64 | with_reducible exact und_int | with_reducible exact und_u32) (by first | with_reducible exact und_u8 | with_reducible exact und_u64 | with_reducible exact und_int | with_reducible exact und_u32) rfl ?_ | refine OW_add rfl rfl ?_ | refine OW_sub rfl rfl ?_ | refine OW_mul rfl rfl ?_ | refine OW_min2 rfl rfl ?_ | refine OW_max2 rfl rfl ?_ | refine OW_neg rfl ?_ | refine CW_block ?_ | refine CW_condT rfl ?_ | refine CW_condF rfl ?_ | refine CW_exit ?_ | refine CW_ret ?_ | refine CW_skip ?_ | refine LW_seq ?_ | refine LW_regC ?_ | refine LW_condC ?_ | refine LW_regF ?_ | refine LW_condF ?_ | refine FW_seq ?_ | refine FW_region (by kernel_rfl) ?_ | refine FW_block ?_ | refine FW_condT rfl ?_ | refine FW_condF rfl ?_ | refine FW_exit ?_ | refine FW_ret ?_ | refine FW_skip ?_ | refine LW_ret ?_ | refine LW_skip ?_ | refine thenE_exit ?_ | refine thenE_ret ?_ | refine inBlockE_normal ?_ | refine inBlockE_same ?_ | refine inBlockE_ret ?_ | refine inBlockE_ne (by rfl) ?_ | refine OW_eqlB (by with_reducible exact und_bool) rfl rfl ?_ | refine OW_neqB (by with_reducible exact und_bool) rfl rfl ?_ | refine OW_idxS (by with_reducible exact und_bytes) one_u8 rfl rfl _ rfl (by omega) ?_ | refine OW_idxS (by with_reducible exact und_bytess) one_bytes rfl rfl _ rfl (by omega) ?_ | refine OW_load1 (by first | with_reducible exact one_u8 | with_reducible exact one_bytes) rfl _ (by assumption) ?_)
  exact hEnd.out) (k : B) : A := h ⟨k⟩
theorem info_str : (Try.prog.info? 9).map (fun i => (i.zero, i.size, i.bytes)) = some (some (.string ⟨#[]⟩), 1, 16) := by kernel_rfl
section
variable {P : Program} {ops : Array Oper} {Q : Exit → (Nat → Value) → World → Prop} {rest : List Oper} {e : Nat → Value} {w : World} {d : Tmp} {ty : TypeId} {pos : String} {aft : Array Edge}
/-- Bytes of a constant, made and converted: the block is marked behind its end. -/
theorem OW_convB7 {x : Operand} {t el : TypeId} {g n c : Nat} {cs : Array Value} (ht : P.underlying t = some (.slice el)) (he : P.underlying el = some (.int .u8)) (hx : ev e x = .slice (some ⟨g, 0, none⟩) n c) (hb : Blk w g el cs)
    (h : ∀ w', Rd w' (some ⟨g, 0, none⟩) cs.toList → w.grownBy w' (some g) → OW P ops Q rest (upd e d (.slice (some ⟨g, 0, none⟩) n c)) w') : OW P ops Q (⟨some d, .convert t t x, ty, pos, aft, none⟩ :: rest) e w := by
  have hb' : w.heap[g]? = some (.cells cs el (0, 0)) := hb
  have hsh : w.shape? g = some (el, cs.size) := by unfold World.shape?; rw [hb']
  refine OW_valw (.slice (some ⟨g, 0, none⟩) n c) (w.freeze ⟨g, cs.size, none⟩ 1) rfl ?_ (h _ ?_ ?_)
  · simp only [execOp, hx, Sem.run_bind]
    simp [convert, run_underlying ht, run_underlying he, markStringish, hsh]
  · intro j u hu
    refine ⟨_, rfl, ?_⟩
    rw [add0]
    have hm : (w.freeze ⟨g, cs.size, none⟩ 1).heap[g]? = some (.cells cs el (cs.size, cs.size + 1)) := by
      simp [World.freeze, Array.getElem?_modify, hb']
    rw [cell_of_row _ _ _ _ _ _ hm]
    simpa using hu
  · refine ⟨rfl, rfl, rfl, by simp [World.freeze], fun k hk hne => ?_⟩
    have : g ≠ k := fun h => hne (by rw [h])
    simp [World.freeze, Array.getElem?_modify, this]
end
theorem rd_lit {w : World} {g : Nat} {T : TypeId} (vs : List Value) (hb : Blk w g T vs.toArray) : Rd w (some ⟨g, 0, none⟩) vs := by
  intro j u hu
  refine ⟨_, rfl, ?_⟩
  rw [add0, hb.cell]
  simpa using hu
theorem all_of {l : List (List UInt8)} (hl : ∀ p ∈ l, p.length ≤ 65536) {b : List UInt8} (hb : b = framesB l) : IsAll b l := by
  subst hb
  have := isAll_frames (l := l) hl (rest := []) (by unfold nextL; rw [if_neg (by simp)])
  rwa [List.append_nil] at this
set_option maxHeartbeats 8000000 in
theorem awake7_any (w : World) : Calls Try.prog 13 #[] w (RetV w (.bool true)) := by
  have la := frameB_length [97]
  have lb := frameB_length [98, 99]
  have lc := frameB_length [100]
  have i1 : IsAll (frameB [97]) [[97]] := all_of (by simp) (by simp [framesB])
  have i2 : IsAll (frameB [97] ++ frameB [98, 99]) [[97], [98, 99]] := all_of (by simp) (by simp [framesB])
  have i3 : IsAll (frameB [97] ++ (frameB [98, 99]).take 5) [[97]] := by
    have := isAll_frames (l := [[97]]) (by simp) (rest := (frameB [98, 99]).take 5) (by
      have := nextL_cut (p := [98, 99]) (y := []) (c := 5) (by simp) (by simp)
      rwa [List.append_nil] at this)
    simpa [framesB] using this
  have i4 : IsAll (frameB [97] ++ frameB [100]) [[97], [100]] := all_of (by simp) (by simp [framesB])
  have n1 : (framesB [[97]]).length = 13 := by simp [framesB, frameB_length]
  obtain ⟨fa, hfa⟩ : ∃ f, frameB [97] = f := ⟨_, rfl⟩
  obtain ⟨fb, hfb⟩ : ∃ f, frameB [98, 99] = f := ⟨_, rfl⟩
  obtain ⟨fc, hfc⟩ : ∃ f, frameB [100] = f := ⟨_, rfl⟩
  rw [hfa] at la i1 i2 i3 i4
  rw [hfb] at lb i2 i3
  rw [hfc] at lc i4
  have la : fa.length = 13 := la
  have lb : fb.length = 14 := lb
  have lc : fc.length = 13 := lc
  have w1 : dWrite dNew fa = (0, ⟨true, [], [fa]⟩) := rfl
  have w2 : dSync ⟨true, [], [fa]⟩ = (0, ⟨true, fa, []⟩) := by unfold dSync DS.all; simp
  have w3 : dWrite ⟨true, fa, []⟩ fb = (0, ⟨true, fa, [fb]⟩) := rfl
  have w4 : dCrash ⟨true, fa, [fb]⟩ 0 5 = (0, ⟨false, fa ++ fb.take 5, []⟩) := by
    unfold dCrash crashN tornN DS.all
    simp [la, lb, List.take_append]
    rw [List.take_of_length_le (by omega)]
    rfl
  have w5 : dWrite ⟨false, fa ++ fb.take 5, []⟩ fc = (60, ⟨false, fa ++ fb.take 5, []⟩) := rfl
  have w6 : dStart ⟨false, fa ++ fb.take 5, []⟩ = (0, ⟨true, fa ++ fb.take 5, []⟩) := rfl
  have w7 : rcvD ⟨true, fa ++ fb.take 5, []⟩ [[97]] = ⟨true, fa, []⟩ := by
    unfold rcvD dCut DS.all
    simp only [List.flatten_nil, List.append_nil]
    rw [n1, if_pos (by simp [la, lb])]
    simp [la, lb]
  have w8 : dWrite ⟨true, fa, []⟩ fc = (0, ⟨true, fa, [fc]⟩) := rfl
  have a1 : DS.all ⟨true, fa, [fb]⟩ = fa ++ fb := by simp [DS.all]
  have a2 : DS.all ⟨true, fa ++ fb.take 5, []⟩ = fa ++ fb.take 5 := by simp [DS.all]
  have a3 : DS.all ⟨true, fa, [fc]⟩ = fa ++ fc := by simp [DS.all]
  have a0 : DS.all ⟨true, [], [fa]⟩ = fa := by simp [DS.all]
  refine calls_of_CW Try.func13 rfl (by simp [Try.ntmps13]) ?_
  rw [Try.ntmps13]
  refine go_WalC (k := ?_)
  refine OW_callC Try.func15 (by kernel_rfl) rfl (newWal_ply w w (Ext.rfl' w)) rfl ?_
  rintro en u1 ⟨g, rfl, hx1, hR1⟩
  refine ⟨_, rfl, ?_⟩
  refine go_WalC (k := ?_)
  refine OW_callC Try.func16 (by kernel_rfl) rfl hR1.wal rfl ?_
  rintro en u2 ⟨v, rfl, hx2, hR2⟩
  refine ⟨_, rfl, ?_⟩
  refine go_WalC (k := ?_)
  refine OW_lit [bv 97] und_bytes info_u8 rfl rfl (by simp [bv, Value.oneCell']) (by decide) ?_
  intro u3 g3 hb3 hg3 hx3
  refine go_WalC (k := ?_)
  refine OW_convB7 und_bytes und_u8 rfl hb3 ?_
  intro u4 hb4 hgr4
  have hx4 := (Keeps.of_only (S := (· = g3)) hgr4 rfl).ext hx3 (fun k hk => by have hk : k = g3 := hk; omega)
  refine go_WalC (k := ?_)
  have hA3 := hR2.addN (v := v) (by simp) (by simp [dNew]) u4 hx4 [97] 1 hb4 hg3 (by simp)
  rw [hfa, w1] at hA3
  refine OW_callC Try.func17 (by kernel_rfl) rfl hA3 rfl ?_
  rintro en u5 ⟨rfl, hR4⟩
  refine ⟨_, rfl, ?_⟩
  refine go_WalC (k := ?_)
  have hS5 := hR4.sync (v := v) (by simp) (by rw [a0]; omega) (by simp)
  rw [w2] at hS5
  refine OW_callC Try.func20 (by kernel_rfl) rfl hS5 rfl ?_
  rintro en u6 ⟨rfl, hR6⟩
  refine ⟨_, rfl, ?_⟩
  refine go_WalC (k := ?_)
  refine OW_lit [bv 98, bv 99] und_bytes info_u8 rfl rfl (by simp [bv, Value.oneCell']) (by decide) ?_
  intro u7 g7 hb7 hg7 hx7
  refine go_WalC (k := ?_)
  refine OW_convB7 und_bytes und_u8 rfl hb7 ?_
  intro u8 hb8 hgr8
  have hx8 := (Keeps.of_only (S := (· = g7)) hgr8 rfl).ext hx7 (fun k hk => by have hk : k = g7 := hk; omega)
  refine go_WalC (k := ?_)
  have hA7 := hR6.addN (v := v) (by simp) (by simp [dNew]) u8 hx8 [98, 99] 2 hb8 hg7 (by simp)
  rw [hfb, w3] at hA7
  refine OW_callC Try.func17 (by kernel_rfl) rfl hA7 rfl ?_
  rintro en u9 ⟨rfl, hR9⟩
  refine ⟨_, rfl, ?_⟩
  refine go_WalC (k := ?_)
  refine OW_callV Try.func21 (by kernel_rfl) rfl (hR9.lasting (v := v) (by simp) [[97]] i1 (by rw [a1, List.length_append]; omega) (by simp)) rfl ?_
  intro u10 hx10
  have hR10 := hR9.ext hx10
  refine go_WalC (k := ?_)
  refine OW_callC Try.func18 (by kernel_rfl) rfl (hR10.records (v := v) (by simp) [[97], [98, 99]] (by rw [a1]; exact i2) (by rw [a1, List.length_append]; omega) (by simp)) rfl ?_
  rintro en u11 ⟨A11, c11, us, rfl, hus, hR11, _, _⟩
  refine ⟨_, rfl, ?_⟩
  refine go_WalC (k := ?_)
  refine OW_lit [.string ⟨#[97]⟩, .string ⟨#[98, 99]⟩] und_strs info_str rfl rfl (by simp [Value.oneCell']) (by decide) ?_
  intro u12 g12 hb12 hg12 hx12
  have hlu : us.length = 2 := by simpa using congrArg List.length hus
  refine go_WalC (k := ?_)
  refine OW_callV Try.func44 (by kernel_rfl) rfl (are_any u12 A11 (some ⟨g12, 0, none⟩) c11 2 us [⟨#[97]⟩, ⟨#[98, 99]⟩] ((hR11.arg (List.mem_cons_self ..)).ext hx12) (rd_lit _ hb12) (by rw [hus]; rfl) (by omega)) rfl ?_
  intro u13 hx13
  have hR13 := (hR11.ext hx12).ext hx13
  refine go_WalC (k := ?_)
  have hC := hR13.call _ fun S hD _ _ => dCrash_any u13 g S _ hD (by rw [a1, List.length_append]; omega) (by simp) 0 5 (by unfold I64; omega) (by unfold I64; omega)
  rw [w4] at hC
  refine OW_callC Try.func25 (by kernel_rfl) rfl hC rfl ?_
  rintro en u14 ⟨rfl, hR14⟩
  refine ⟨_, rfl, ?_⟩
  refine go_WalC (k := ?_)
  refine OW_lit [bv 100] und_bytes info_u8 rfl rfl (by simp [bv, Value.oneCell']) (by decide) ?_
  intro u15 g15 hb15 hg15 hx15
  refine go_WalC (k := ?_)
  refine OW_convB7 und_bytes und_u8 rfl hb15 ?_
  intro u16 hb16 hgr16
  have hx16 := (Keeps.of_only (S := (· = g15)) hgr16 rfl).ext hx15 (fun k hk => by have hk : k = g15 := hk; omega)
  refine go_WalC (k := ?_)
  have hA15 := hR14.addN (v := v) (by simp) (by simp [dNew]) u16 hx16 [100] 1 hb16 hg15 (by simp)
  rw [hfc, w5] at hA15
  refine OW_callC Try.func17 (by kernel_rfl) rfl hA15 rfl ?_
  rintro en u17 ⟨rfl, hR17⟩
  refine ⟨_, rfl, ?_⟩
  refine go_WalC (k := ?_)
  have hSt := hR17.call _ fun S hD _ _ => dStart_any u17 g S _ hD
  rw [w6] at hSt
  refine OW_callC Try.func26 (by kernel_rfl) rfl hSt rfl ?_
  rintro en u18 ⟨rfl, hR18⟩
  refine ⟨_, rfl, ?_⟩
  refine go_WalC (k := ?_)
  have hRc := hR18.recover (v := v) (by simp) rfl [[97]] (by rw [a2]; exact i3) (by rw [a2, List.length_append, List.length_take]; omega) (by simp)
  rw [w7, n1, a2, show ((fa ++ fb.take 5).length : Int) - ((13 : Nat) : Int) = 5 by rw [List.length_append, List.length_take]; omega] at hRc
  refine OW_callC Try.func34 (by kernel_rfl) rfl hRc rfl ?_
  rintro en u19 ⟨A19, vs, rfl, hvs, hR19⟩
  refine ⟨_, rfl, ?_⟩
  have hlv : vs.length = 1 := by simpa using congrArg List.length hvs
  refine go_WalC (k := ?_)
  refine OW_lit [.string ⟨#[97]⟩] und_strs info_str rfl rfl (by simp [Value.oneCell']) (by decide) ?_
  intro u20 g20 hb20 hg20 hx20
  refine go_WalC (k := ?_)
  refine OW_callV Try.func44 (by kernel_rfl) rfl (are_any u20 A19 (some ⟨g20, 0, none⟩) vs.length 1 vs [⟨#[97]⟩] ((hR19.arg (List.mem_cons_self ..)).ext hx20) (rd_lit _ hb20) (by rw [hvs]; rfl) (by omega)) rfl ?_
  intro u21 hx21
  have hR21 := (hR19.ext hx20).ext hx21
  refine go_WalC (k := ?_)
  refine OW_lit [bv 100] und_bytes info_u8 rfl rfl (by simp [bv, Value.oneCell']) (by decide) ?_
  intro u22 g22 hb22 hg22 hx22
  refine go_WalC (k := ?_)
  refine OW_convB7 und_bytes und_u8 rfl hb22 ?_
  intro u23 hb23 hgr23
  have hx23 := (Keeps.of_only (S := (· = g22)) hgr23 rfl).ext hx22 (fun k hk => by have hk : k = g22 := hk; omega)
  refine go_WalC (k := ?_)
  have hA22 := hR21.addN (v := v) (by simp) (by simp [dNew]) u23 hx23 [100] 1 hb23 hg22 (by simp)
  rw [hfc, w8] at hA22
  refine OW_callC Try.func17 (by kernel_rfl) rfl hA22 rfl ?_
  rintro en u24 ⟨rfl, hR24⟩
  refine ⟨_, rfl, ?_⟩
  refine go_WalC (k := ?_)
  refine OW_callC Try.func18 (by kernel_rfl) rfl (hR24.records (v := v) (by simp) [[97], [100]] (by rw [a3]; exact i4) (by rw [a3, List.length_append]; omega) (by simp)) rfl ?_
  rintro en u25 ⟨A25, c25, xs, rfl, hxs, hR25, _, _⟩
  refine ⟨_, rfl, ?_⟩
  refine go_WalC (k := ?_)
  refine OW_lit [.string ⟨#[97]⟩, .string ⟨#[100]⟩] und_strs info_str rfl rfl (by simp [Value.oneCell']) (by decide) ?_
  intro u26 g26 hb26 hg26 hx26
  have hlx : xs.length = 2 := by simpa using congrArg List.length hxs
  refine go_WalC (k := ?_)
  refine OW_callV Try.func44 (by kernel_rfl) rfl (are_any u26 A25 (some ⟨g26, 0, none⟩) c25 2 xs [⟨#[97]⟩, ⟨#[100]⟩] ((hR25.arg (List.mem_cons_self ..)).ext hx26) (rd_lit _ hb26) (by rw [hxs]; rfl) (by omega)) rfl ?_
  intro u27 hx27
  refine go_WalC (k := ?_)
  exact bodyE_ret1 rfl (.bool true) rfl ⟨rfl, ((hR25.ext hx26).ext hx27).to⟩
end Go.Proofs.Ytnfeibbnjdegfaa

/- What a wal's disk comes to, plainly. -/
namespace Go.Proofs.Ytnfeibbnjdegfaa
open Go Go.RowKit
set_option linter.unusedVariables false
/-- A disk that is up: what is synced; records behind it. -/
def dF (s : List UInt8) (ps : List (List UInt8)) : DS := ⟨true, s, ps.map frameB⟩
theorem dF_all (s : List UInt8) (ps : List (List UInt8)) : (dF s ps).all = s ++ framesB ps := by simp [dF, DS.all, framesB]
theorem dF_add (s : List UInt8) (ps : List (List UInt8)) (p : List UInt8) : dWrite (dF s ps) (frameB p) = (0, dF s (ps ++ [p])) := by simp [dF, dWrite]
theorem dF_sync (s : List UInt8) (ps : List (List UInt8)) : dSync (dF s ps) = (0, dF (s ++ framesB ps) []) := by
  show (0, (⟨true, (dF s ps).all, []⟩ : DS)) = _
  rw [dF_all]
  rfl
theorem dF_ws (s : List UInt8) (ps : List (List UInt8)) : (dF s ps).ws.length = ps.length := by simp [dF]
theorem framesB_worth : ∀ us : List BV, (framesB (us.map pay)).length ≤ worth 40 us
  | [] => by simp [framesB]
  | u :: us => by
    have ih := framesB_worth us
    unfold worth at ih ⊢
    rw [List.map_cons, framesB_cons, List.length_append, frameB_length, List.map_cons, List.sum_cons]
    show u.2.2.length + 12 + _ ≤ _
    omega
theorem pay_small {us : List BV} (h : worth 40 us ≤ 2000) : ∀ p ∈ us.map pay, p.length ≤ 65536 := fun p hp => by
  obtain ⟨v, hv, rfl⟩ := List.mem_map.1 hp
  have := worth_each (n := 40) hv
  have : (pay v).length = v.2.2.length := rfl
  omega
theorem pay_at {us : List BV} {ps : List (List UInt8)} (h : us.map pay = ps) {i : Nat} (hi : i < us.length) : (us[i]).2.2 = ps[i]'(by rw [← h]; simpa using hi) := by
  subst h
  rw [List.getElem_map]
theorem take_pay {vs : List BV} {k : Nat} (h : k < vs.length) : (vs.map pay).take (k + 1) = (vs.map pay).take k ++ [(vs[k]).2.2] := by
  rw [take_succ_get _ _ (by simpa using h), List.getElem_map]
theorem ArgL.drop {w : World} {A : Option Addr} {vs : List BV} (h : ArgL w A vs) (m lo : Nat) (hm : vs.length ≤ m) : ArgL w (cutA A m lo) (vs.drop lo) :=
  ⟨by
    by_cases hlo : lo ≤ vs.length
    · have := Rd.cut h.rd m lo (vs.length - lo) (by omega)
      rwa [List.take_of_length_le (by simp), ← List.map_drop] at this
    · rw [List.drop_of_length_le (by omega)]; exact Rd.nil _ _, fun v hv => h.bs v (List.mem_of_mem_drop hv)⟩
end Go.Proofs.Ytnfeibbnjdegfaa

/- What stays behind a crash, plainly. -/
namespace Go.Proofs.Ytnfeibbnjdegfaa
open Go Go.RowKit
set_option linter.unusedVariables false
theorem framesB_take2 (ps : List (List UInt8)) (sy k : Nat) : framesB (ps.take (sy + k)) = framesB (ps.take sy) ++ framesB ((ps.drop sy).take k) := by
  rw [List.take_add, framesB_append]
theorem ws_take (ps : List (List UInt8)) (k : Nat) : ((ps.map frameB).take k).flatten = framesB (ps.take k) := by
  unfold framesB; rw [List.map_take]
theorem crash_begins {ps : List (List UInt8)} (hl : ∀ p ∈ ps, p.length ≤ 65536) {sy : Nat} (hs : sy ≤ ps.length) (k t : Nat) :
    IsAll ((framesB ps).take (crashN (dF (framesB (ps.take sy)) (ps.drop sy)) k t)) (ps.take (min (sy + k) ps.length)) := by
  have hn : crashN (dF (framesB (ps.take sy)) (ps.drop sy)) k t = (framesB (ps.take (sy + k))).length + tornN (dF (framesB (ps.take sy)) (ps.drop sy)) k t := by
    unfold crashN
    show (framesB (ps.take sy)).length + (((ps.drop sy).map frameB).take k).flatten.length + _ = _
    rw [ws_take, framesB_take2, List.length_append]
  rw [hn]
  by_cases hk : sy + k < ps.length
  · rw [Nat.min_eq_left (by omega)]
    have hw : ((ps.drop sy).map frameB)[k]'(by simp; omega) = frameB (ps[sy + k]) := by simp
    have ht : tornN (dF (framesB (ps.take sy)) (ps.drop sy)) k t = min t ((frameB (ps[sy + k])).length - 1) := by
      unfold tornN
      rw [dif_pos (by show k < ((ps.drop sy).map frameB).length; simp; omega)]
      exact congrArg (fun l : List UInt8 => min t (l.length - 1)) hw
    have hsucc : framesB (ps.take (sy + k + 1)) = framesB (ps.take (sy + k)) ++ frameB (ps[sy + k]) := by
      rw [take_succ_get _ _ hk, framesB_snoc]
    have hfl := frameB_length (ps[sy + k])
    have htot := framesB_take ps (sy + k + 1)
    have hlen := congrArg List.length htot
    rw [List.length_append] at hlen
    have hsl := congrArg List.length hsucc
    rw [List.length_append] at hsl
    rw [ht]
    exact isAll_cut hl (by omega) (by omega) (fun _ => by omega)
  · rw [Nat.min_eq_right (by omega)]
    have ht : tornN (dF (framesB (ps.take sy)) (ps.drop sy)) k t = 0 := by
      unfold tornN
      rw [dif_neg (by show ¬ k < ((ps.drop sy).map frameB).length; simp; omega)]
    rw [ht, List.take_of_length_le (show ps.length ≤ sy + k by omega)]
    exact isAll_cut hl (by rw [List.take_of_length_le (Nat.le_refl _)]; omega) (by omega) (fun h => by omega)
/-- What Recover leaves of bytes alone. -/
theorem rcv_bytes {L : List UInt8} {ps : List (List UInt8)} (h : IsAll L ps) : rcvD ⟨true, L, []⟩ ps = dF (framesB ps) [] := by
  have hall : DS.all ⟨true, L, []⟩ = L := by simp [DS.all]
  unfold rcvD
  rw [hall]
  by_cases h0 : (framesB ps).length < L.length
  · rw [if_pos h0]
    unfold dCut
    rw [if_pos rfl, if_neg (by rw [hall]; omega), hall]
    show (⟨true, L.take ((framesB ps).length : Int).toNat, []⟩ : DS) = _
    rw [show ((framesB ps).length : Int).toNat = (framesB ps).length from rfl, h.2.1]
    rfl
  · rw [if_neg h0]
    have h1 := h.2.1
    rw [List.take_of_length_le (by omega)] at h1
    rw [h1]
    rfl
/-- The disk behind some adds, with a sync ahead of one. -/
def dK (ps : List (List UInt8)) (sy k : Nat) : DS := if k ≤ sy then dF [] (ps.take k) else dF (framesB (ps.take sy)) ((ps.take k).drop sy)
def dM (ps : List (List UInt8)) (sy k : Nat) : DS := if k < sy then dF [] (ps.take k) else dF (framesB (ps.take sy)) ((ps.take k).drop sy)
theorem dK_sync {ps : List (List UInt8)} {sy k : Nat} (h : k = sy) : dSync (dK ps sy k) = (0, dM ps sy k) := by
  subst h
  unfold dK dM
  rw [if_pos (Nat.le_refl _), if_neg (Nat.lt_irrefl _), dF_sync, List.drop_of_length_le (by rw [List.length_take]; omega)]
  rfl
theorem dK_same {ps : List (List UInt8)} {sy k : Nat} (h : k ≠ sy) : dK ps sy k = dM ps sy k := by
  unfold dK dM
  by_cases h1 : k < sy
  · rw [if_pos (by omega), if_pos h1]
  · rw [if_neg (by omega), if_neg h1]
theorem dM_add {ps : List (List UInt8)} {sy k : Nat} (h : k < ps.length) : dWrite (dM ps sy k) (frameB ps[k]) = (0, dK ps sy (k + 1)) := by
  unfold dK dM
  by_cases h1 : k < sy
  · rw [if_pos h1, if_pos (by omega), dF_add, ← take_succ_get _ _ h]
  · rw [if_neg h1, if_neg (by omega), dF_add]
    congr 2
    rw [take_succ_get _ _ h, List.drop_append_of_le_length (by rw [List.length_take]; omega)]
theorem dM_ws (ps : List (List UInt8)) (sy k : Nat) : (dM ps sy k).ws.length ≤ ps.length := by
  unfold dM
  split
  · rw [dF_ws, List.length_take]; omega
  · rw [dF_ws, List.length_drop, List.length_take]; omega
theorem dK_ws (ps : List (List UInt8)) (sy k : Nat) : (dK ps sy k).ws.length ≤ ps.length := by
  unfold dK
  split
  · rw [dF_ws, List.length_take]; omega
  · rw [dF_ws, List.length_drop, List.length_take]; omega
theorem dK_all (ps : List (List UInt8)) (sy k : Nat) : (dK ps sy k).all = framesB (ps.take k) := by
  unfold dK
  split
  · rw [dF_all]; rfl
  · rw [dF_all, ← framesB_append]
    congr 1
    conv => rhs; rw [← List.take_append_drop sy (ps.take k)]
    rw [List.take_take, Nat.min_eq_left (by omega)]
theorem dE_of {ps : List (List UInt8)} {sy : Nat} (h : sy ≤ ps.length) : dM ps sy ps.length = (if ps.length < sy then dF [] ps else dF (framesB (ps.take sy)) (ps.drop sy)) := by
  unfold dM
  rw [List.take_of_length_le (Nat.le_refl _)]
end Go.Proofs.Ytnfeibbnjdegfaa
