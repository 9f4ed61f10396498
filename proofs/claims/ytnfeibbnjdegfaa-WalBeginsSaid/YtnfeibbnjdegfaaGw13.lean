/- Several texts in one, as they stand in wip/src. -/
import Derived.Shelf.Bytes.SlJoin
import Derived.Test.YtnfeibbnjdegfaaGw1
import Derived.Test.YtnfeibbnjdegfaaGw3
import Derived.Test.YtnfeibbnjdegfaaGw4
import Derived.Test.YtnfeibbnjdegfaaGw5
import Derived.Test.YtnfeibbnjdegfaaGw7
import Derived.Test.YtnfeibbnjdegfaaGw8
import Derived.Test.YtnfeibbnjdegfaaGw11
import Derived.Test.YtnfeibbnjdegfaaGw12
/- Walks: frames read one behind the other, the program's and the reference's. -/
namespace Go.Proofs.Ytnfeibbnjdegfaa
open Go Go.RowKit
set_option linter.unusedVariables false
set_option maxRecDepth 4000
theorem go_Frm2 {A B : Prop} (h : Held B → A := by
  intro hEnd
  repeat (first | refine OW_sliceP h_slp_Tag rfl ?_ | refine OW_addU64 rfl rfl (by omega) ?_ | refine OW_convIn und_u32 und_int rfl (by omega) ?_ | refine OW_convIn und_u64 und_int rfl (by omega) ?_ | refine OW_convU64 und_int und_u64 rfl (by omega) ?_ | refine OW_moveV (.int _ _) rfl ?_ | refine OW_moveV (.slice _ _ _) rfl ?_ | refine OW_moveV (.bool _) rfl ?_ | refine OW_moveV (.pointer _) rfl ?_ | refine OW_moveV (.string _) rfl ?_ | refine OW_moveV (.agg _) rfl ?_ | refine OW_moveV (.tuple _) rfl ?_ | refine OW_nil ?_ | refine thenE_normal ?_ | refine CW_seq ?_ | refine CW_region (by kernel_rfl) ?_ | refine OW_assignV (.int _ _) rfl ?_ | refine OW_assignV (.slice _ _ _) rfl ?_ | refine OW_assignV (.bool _) rfl ?_ | refine OW_assignV (.pointer _) rfl ?_ | refine OW_assignV (.string _) rfl ?_ | refine OW_assignV (.agg _) rfl ?_ | refine OW_assignV (.tuple _) rfl ?_ | refine OW_addI rfl rfl (by omega) ?_ | refine OW_subI rfl rfl (by omega) ?_ | refine OW_mulI rfl rfl (by omega) ?_ | refine OW_lss rfl rfl ?_ | refine OW_extract rfl rfl ?_ | refine OW_gtr rfl rfl ?_ | refine OW_leq rfl rfl ?_ | refine OW_geq rfl rfl ?_ | refine OW_eql rfl rfl ?_ | refine OW_neq rfl rfl ?_ | refine OW_not rfl ?_ | refine OW_pickT rfl _ rfl ?_ | refine OW_pickF rfl (.bool _) rfl ?_ | refine OW_pickB rfl rfl rfl ?_ | refine OW_move ?_ | refine OW_assign ?_ | refine OW_pass rfl ?_ | refine OW_take rfl ?_ | refine OW_lenS (by first | with_reducible exact und_bytes | with_reducible exact und_bytess) rfl ?_ | refine OW_convInt (by first | with_reducible exact und_u8 | with_reducible exact und_u64 | with_reducible exact und_int | with_reducible exact und_u32) (by first | with_reducible exact und_u8 | with_reducible exact und_u64 | with_reducible exact und_int | with_reducible exact und_u32) rfl ?_ | refine OW_add rfl rfl ?_ | refine OW_sub rfl rfl ?_ | refine OW_mul rfl rfl ?_ | refine OW_min2 rfl rfl ?_ | refine OW_max2 rfl rfl ?_ | refine OW_neg rfl ?_ | refine CW_block ?_ | refine CW_condT rfl ?_ | refine CW_condF rfl ?_ | refine CW_exit ?_ | refine CW_ret ?_ | refine CW_skip ?_ | refine LW_seq ?_ | refine LW_regC ?_ | refine LW_condC ?_ | refine LW_regF ?_ | refine LW_condF ?_ | refine FW_seq ?_ | refine FW_region (by kernel_rfl) ?_ | refine FW_block ?_ | refine FW_condT rfl ?_ | refine FW_condF rfl ?_ | refine FW_exit ?_ | refine FW_ret ?_ | refine FW_skip ?_ | refine LW_ret ?_ | refine LW_skip ?_ | refine thenE_exit ?_ | refine thenE_ret ?_ | refine inBlockE_normal ?_ | refine inBlockE_same ?_ | refine inBlockE_ret ?_ | refine inBlockE_ne (by rfl) ?_ | refine OW_eqlB (by with_reducible exact und_bool) rfl rfl ?_ | refine OW_neqB (by with_reducible exact und_bool) rfl rfl ?_ | refine OW_idxS (by with_reducible exact und_bytes) one_u8 rfl rfl _ rfl (by omega) ?_ | refine OW_idxS (by with_reducible exact und_bytess) one_bytes rfl rfl _ rfl (by omega) ?_ | refine OW_load1 (by first | with_reducible exact one_u8 | with_reducible exact one_bytes) rfl _ (by assumption) ?_)
  exact hEnd.out) (k : B) : A := h ⟨k⟩
theorem oy_Frm2 {A B : Prop} (h : Held B → A := by
  intro hEnd
  repeat (first
    | refine OY_done ?_
    | (apply OY_p _ rfl
       · intro wd
         (first | refine OW_sliceP h_slp_Tag rfl ?_ | refine OW_addU64 rfl rfl (by omega) ?_ | refine OW_convIn und_u32 und_int rfl (by omega) ?_ | refine OW_convIn und_u64 und_int rfl (by omega) ?_ | refine OW_convU64 und_int und_u64 rfl (by omega) ?_ | refine OW_moveV (.int _ _) rfl ?_ | refine OW_moveV (.slice _ _ _) rfl ?_ | refine OW_moveV (.bool _) rfl ?_ | refine OW_moveV (.pointer _) rfl ?_ | refine OW_moveV (.string _) rfl ?_ | refine OW_moveV (.agg _) rfl ?_ | refine OW_moveV (.tuple _) rfl ?_ | refine OW_nil ?_ | refine thenE_normal ?_ | refine CW_seq ?_ | refine CW_region (by kernel_rfl) ?_ | refine OW_assignV (.int _ _) rfl ?_ | refine OW_assignV (.slice _ _ _) rfl ?_ | refine OW_assignV (.bool _) rfl ?_ | refine OW_assignV (.pointer _) rfl ?_ | refine OW_assignV (.string _) rfl ?_ | refine OW_assignV (.agg _) rfl ?_ | refine OW_assignV (.tuple _) rfl ?_ | refine OW_addI rfl rfl (by omega) ?_ | refine OW_subI rfl rfl (by omega) ?_ | refine OW_mulI rfl rfl (by omega) ?_ | refine OW_lss rfl rfl ?_ | refine OW_extract rfl rfl ?_ | refine OW_gtr rfl rfl ?_ | refine OW_leq rfl rfl ?_ | refine OW_geq rfl rfl ?_ | refine OW_eql rfl rfl ?_ | refine OW_neq rfl rfl ?_ | refine OW_not rfl ?_ | refine OW_pickT rfl _ rfl ?_ | refine OW_pickF rfl (.bool _) rfl ?_ | refine OW_pickB rfl rfl rfl ?_ | refine OW_move ?_ | refine OW_assign ?_ | refine OW_pass rfl ?_ | refine OW_take rfl ?_ | refine OW_lenS (by first | with_reducible exact und_bytes | with_reducible exact und_bytess) rfl ?_ | refine OW_convInt (by first | with_reducible exact und_u8 | with_reducible exact und_u64 | with_reducible exact und_int | with_reducible exact und_u32) (by first | with_reducible exact und_u8 | with_reducible exact und_u64 | with_reducible exact und_int | with_reducible exact und_u32) rfl ?_ | refine OW_add rfl rfl ?_ | refine OW_sub rfl rfl ?_ | refine OW_mul rfl rfl ?_ | refine OW_min2 rfl rfl ?_ | refine OW_max2 rfl rfl ?_ | refine OW_neg rfl ?_ | refine CW_block ?_ | refine CW_condT rfl ?_ | refine CW_condF rfl ?_ | refine CW_exit ?_ | refine CW_ret ?_ | refine CW_skip ?_ | refine LW_seq ?_ | refine LW_regC ?_ | refine LW_condC ?_ | refine LW_regF ?_ | refine LW_condF ?_ | refine FW_seq ?_ | refine FW_region (by kernel_rfl) ?_ | refine FW_block ?_ | refine FW_condT rfl ?_ | refine FW_condF rfl ?_ | refine FW_exit ?_ | refine FW_ret ?_ | refine FW_skip ?_ | refine LW_ret ?_ | refine LW_skip ?_ | refine thenE_exit ?_ | refine thenE_ret ?_ | refine inBlockE_normal ?_ | refine inBlockE_same ?_ | refine inBlockE_ret ?_ | refine inBlockE_ne (by rfl) ?_ | refine OW_eqlB (by with_reducible exact und_bool) rfl rfl ?_ | refine OW_neqB (by with_reducible exact und_bool) rfl rfl ?_ | refine OW_idxS (by with_reducible exact und_bytes) one_u8 rfl rfl _ rfl (by omega) ?_ | refine OW_idxS (by with_reducible exact und_bytess) one_bytes rfl rfl _ rfl (by omega) ?_ | refine OW_load1 (by first | with_reducible exact one_u8 | with_reducible exact one_bytes) rfl _ (by assumption) ?_)
         refine OW_nil ?_
         exact stay_mk _ _ _ _)
    | (apply OY_q _ rfl
       · intro wd hwd
         (first | refine OW_sliceP h_slp_Tag rfl ?_ | refine OW_addU64 rfl rfl (by omega) ?_ | refine OW_convIn und_u32 und_int rfl (by omega) ?_ | refine OW_convIn und_u64 und_int rfl (by omega) ?_ | refine OW_convU64 und_int und_u64 rfl (by omega) ?_ | refine OW_moveV (.int _ _) rfl ?_ | refine OW_moveV (.slice _ _ _) rfl ?_ | refine OW_moveV (.bool _) rfl ?_ | refine OW_moveV (.pointer _) rfl ?_ | refine OW_moveV (.string _) rfl ?_ | refine OW_moveV (.agg _) rfl ?_ | refine OW_moveV (.tuple _) rfl ?_ | refine OW_nil ?_ | refine thenE_normal ?_ | refine CW_seq ?_ | refine CW_region (by kernel_rfl) ?_ | refine OW_assignV (.int _ _) rfl ?_ | refine OW_assignV (.slice _ _ _) rfl ?_ | refine OW_assignV (.bool _) rfl ?_ | refine OW_assignV (.pointer _) rfl ?_ | refine OW_assignV (.string _) rfl ?_ | refine OW_assignV (.agg _) rfl ?_ | refine OW_assignV (.tuple _) rfl ?_ | refine OW_addI rfl rfl (by omega) ?_ | refine OW_subI rfl rfl (by omega) ?_ | refine OW_mulI rfl rfl (by omega) ?_ | refine OW_lss rfl rfl ?_ | refine OW_extract rfl rfl ?_ | refine OW_gtr rfl rfl ?_ | refine OW_leq rfl rfl ?_ | refine OW_geq rfl rfl ?_ | refine OW_eql rfl rfl ?_ | refine OW_neq rfl rfl ?_ | refine OW_not rfl ?_ | refine OW_pickT rfl _ rfl ?_ | refine OW_pickF rfl (.bool _) rfl ?_ | refine OW_pickB rfl rfl rfl ?_ | refine OW_move ?_ | refine OW_assign ?_ | refine OW_pass rfl ?_ | refine OW_take rfl ?_ | refine OW_lenS (by first | with_reducible exact und_bytes | with_reducible exact und_bytess) rfl ?_ | refine OW_convInt (by first | with_reducible exact und_u8 | with_reducible exact und_u64 | with_reducible exact und_int | with_reducible exact und_u32) (by first | with_reducible exact und_u8 | with_reducible exact und_u64 | with_reducible exact und_int | with_reducible exact und_u32) rfl ?_ | refine OW_add rfl rfl ?_ | refine OW_sub rfl rfl ?_ | refine OW_mul rfl rfl ?_ | refine OW_min2 rfl rfl ?_ | refine OW_max2 rfl rfl ?_ | refine OW_neg rfl ?_ | refine CW_block ?_ | refine CW_condT rfl ?_ | refine CW_condF rfl ?_ | refine CW_exit ?_ | refine CW_ret ?_ | refine CW_skip ?_ | refine LW_seq ?_ | refine LW_regC ?_ | refine LW_condC ?_ | refine LW_regF ?_ | refine LW_condF ?_ | refine FW_seq ?_ | refine FW_region (by kernel_rfl) ?_ | refine FW_block ?_ | refine FW_condT rfl ?_ | refine FW_condF rfl ?_ | refine FW_exit ?_ | refine FW_ret ?_ | refine FW_skip ?_ | refine LW_ret ?_ | refine LW_skip ?_ | refine thenE_exit ?_ | refine thenE_ret ?_ | refine inBlockE_normal ?_ | refine inBlockE_same ?_ | refine inBlockE_ret ?_ | refine inBlockE_ne (by rfl) ?_ | refine OW_eqlB (by with_reducible exact und_bool) rfl rfl ?_ | refine OW_neqB (by with_reducible exact und_bool) rfl rfl ?_ | refine OW_idxS (by with_reducible exact und_bytes) one_u8 rfl rfl _ rfl (by omega) ?_ | refine OW_idxS (by with_reducible exact und_bytess) one_bytes rfl rfl _ rfl (by omega) ?_ | refine OW_load1 (by first | with_reducible exact one_u8 | with_reducible exact one_bytes) rfl _ (by assumption) ?_ | (refine OW_isLoad ?_; refine OW_loadBk (by first | with_reducible exact one_u8 | with_reducible exact one_bytes | with_reducible exact one_bool | with_reducible exact one_int | with_reducible exact one_errno | with_reducible exact one_u32 | with_reducible exact one_u64 | with_reducible exact one_string | with_reducible exact one_bytess | with_reducible exact s_int) rfl (by apply_assumption; assumption) _ (by first | assumption | rfl) ?_) | refine OW_load1 (by first | with_reducible exact one_u8 | with_reducible exact one_bytes | with_reducible exact one_bool | with_reducible exact one_int | with_reducible exact one_errno | with_reducible exact one_u32 | with_reducible exact one_u64 | with_reducible exact one_string | with_reducible exact one_bytess | with_reducible exact s_int) rfl _ (by apply_assumption; assumption) ?_)
         refine OW_nil ?_
         exact stay_mk _ _ _ _)
    | refine OY_ppass rfl rfl ?_
    | refine OY_qpass rfl rfl ?_
    | (apply OY_ptake _ rfl rfl
       · intro wd
         (first | refine OW_sliceP h_slp_Tag rfl ?_ | refine OW_addU64 rfl rfl (by omega) ?_ | refine OW_convIn und_u32 und_int rfl (by omega) ?_ | refine OW_convIn und_u64 und_int rfl (by omega) ?_ | refine OW_convU64 und_int und_u64 rfl (by omega) ?_ | refine OW_moveV (.int _ _) rfl ?_ | refine OW_moveV (.slice _ _ _) rfl ?_ | refine OW_moveV (.bool _) rfl ?_ | refine OW_moveV (.pointer _) rfl ?_ | refine OW_moveV (.string _) rfl ?_ | refine OW_moveV (.agg _) rfl ?_ | refine OW_moveV (.tuple _) rfl ?_ | refine OW_nil ?_ | refine thenE_normal ?_ | refine CW_seq ?_ | refine CW_region (by kernel_rfl) ?_ | refine OW_assignV (.int _ _) rfl ?_ | refine OW_assignV (.slice _ _ _) rfl ?_ | refine OW_assignV (.bool _) rfl ?_ | refine OW_assignV (.pointer _) rfl ?_ | refine OW_assignV (.string _) rfl ?_ | refine OW_assignV (.agg _) rfl ?_ | refine OW_assignV (.tuple _) rfl ?_ | refine OW_addI rfl rfl (by omega) ?_ | refine OW_subI rfl rfl (by omega) ?_ | refine OW_mulI rfl rfl (by omega) ?_ | refine OW_lss rfl rfl ?_ | refine OW_extract rfl rfl ?_ | refine OW_gtr rfl rfl ?_ | refine OW_leq rfl rfl ?_ | refine OW_geq rfl rfl ?_ | refine OW_eql rfl rfl ?_ | refine OW_neq rfl rfl ?_ | refine OW_not rfl ?_ | refine OW_pickT rfl _ rfl ?_ | refine OW_pickF rfl (.bool _) rfl ?_ | refine OW_pickB rfl rfl rfl ?_ | refine OW_move ?_ | refine OW_assign ?_ | refine OW_pass rfl ?_ | refine OW_take rfl ?_ | refine OW_lenS (by first | with_reducible exact und_bytes | with_reducible exact und_bytess) rfl ?_ | refine OW_convInt (by first | with_reducible exact und_u8 | with_reducible exact und_u64 | with_reducible exact und_int | with_reducible exact und_u32) (by first | with_reducible exact und_u8 | with_reducible exact und_u64 | with_reducible exact und_int | with_reducible exact und_u32) rfl ?_ | refine OW_add rfl rfl ?_ | refine OW_sub rfl rfl ?_ | refine OW_mul rfl rfl ?_ | refine OW_min2 rfl rfl ?_ | refine OW_max2 rfl rfl ?_ | refine OW_neg rfl ?_ | refine CW_block ?_ | refine CW_condT rfl ?_ | refine CW_condF rfl ?_ | refine CW_exit ?_ | refine CW_ret ?_ | refine CW_skip ?_ | refine LW_seq ?_ | refine LW_regC ?_ | refine LW_condC ?_ | refine LW_regF ?_ | refine LW_condF ?_ | refine FW_seq ?_ | refine FW_region (by kernel_rfl) ?_ | refine FW_block ?_ | refine FW_condT rfl ?_ | refine FW_condF rfl ?_ | refine FW_exit ?_ | refine FW_ret ?_ | refine FW_skip ?_ | refine LW_ret ?_ | refine LW_skip ?_ | refine thenE_exit ?_ | refine thenE_ret ?_ | refine inBlockE_normal ?_ | refine inBlockE_same ?_ | refine inBlockE_ret ?_ | refine inBlockE_ne (by rfl) ?_ | refine OW_eqlB (by with_reducible exact und_bool) rfl rfl ?_ | refine OW_neqB (by with_reducible exact und_bool) rfl rfl ?_ | refine OW_idxS (by with_reducible exact und_bytes) one_u8 rfl rfl _ rfl (by omega) ?_ | refine OW_idxS (by with_reducible exact und_bytess) one_bytes rfl rfl _ rfl (by omega) ?_ | refine OW_load1 (by first | with_reducible exact one_u8 | with_reducible exact one_bytes) rfl _ (by assumption) ?_)
         refine OW_nil ?_
         exact stay_mk _ _ _ _)
    | (apply OY_qtake _ rfl rfl
       · intro wd hwd
         (first | refine OW_sliceP h_slp_Tag rfl ?_ | refine OW_addU64 rfl rfl (by omega) ?_ | refine OW_convIn und_u32 und_int rfl (by omega) ?_ | refine OW_convIn und_u64 und_int rfl (by omega) ?_ | refine OW_convU64 und_int und_u64 rfl (by omega) ?_ | refine OW_moveV (.int _ _) rfl ?_ | refine OW_moveV (.slice _ _ _) rfl ?_ | refine OW_moveV (.bool _) rfl ?_ | refine OW_moveV (.pointer _) rfl ?_ | refine OW_moveV (.string _) rfl ?_ | refine OW_moveV (.agg _) rfl ?_ | refine OW_moveV (.tuple _) rfl ?_ | refine OW_nil ?_ | refine thenE_normal ?_ | refine CW_seq ?_ | refine CW_region (by kernel_rfl) ?_ | refine OW_assignV (.int _ _) rfl ?_ | refine OW_assignV (.slice _ _ _) rfl ?_ | refine OW_assignV (.bool _) rfl ?_ | refine OW_assignV (.pointer _) rfl ?_ | refine OW_assignV (.string _) rfl ?_ | refine OW_assignV (.agg _) rfl ?_ | refine OW_assignV (.tuple _) rfl ?_ | refine OW_addI rfl rfl (by omega) ?_ | refine OW_subI rfl rfl (by omega) ?_ | refine OW_mulI rfl rfl (by omega) ?_ | refine OW_lss rfl rfl ?_ | refine OW_extract rfl rfl ?_ | refine OW_gtr rfl rfl ?_ | refine OW_leq rfl rfl ?_ | refine OW_geq rfl rfl ?_ | refine OW_eql rfl rfl ?_ | refine OW_neq rfl rfl ?_ | refine OW_not rfl ?_ | refine OW_pickT rfl _ rfl ?_ | refine OW_pickF rfl (.bool _) rfl ?_ | refine OW_pickB rfl rfl rfl ?_ | refine OW_move ?_ | refine OW_assign ?_ | refine OW_pass rfl ?_ | refine OW_take rfl ?_ | refine OW_lenS (by first | with_reducible exact und_bytes | with_reducible exact und_bytess) rfl ?_ | refine OW_convInt (by first | with_reducible exact und_u8 | with_reducible exact und_u64 | with_reducible exact und_int | with_reducible exact und_u32) (by first | with_reducible exact und_u8 | with_reducible exact und_u64 | with_reducible exact und_int | with_reducible exact und_u32) rfl ?_ | refine OW_add rfl rfl ?_ | refine OW_sub rfl rfl ?_ | refine OW_mul rfl rfl ?_ | refine OW_min2 rfl rfl ?_ | refine OW_max2 rfl rfl ?_ | refine OW_neg rfl ?_ | refine CW_block ?_ | refine CW_condT rfl ?_ | refine CW_condF rfl ?_ | refine CW_exit ?_ | refine CW_ret ?_ | refine CW_skip ?_ | refine LW_seq ?_ | refine LW_regC ?_ | refine LW_condC ?_ | refine LW_regF ?_ | refine LW_condF ?_ | refine FW_seq ?_ | refine FW_region (by kernel_rfl) ?_ | refine FW_block ?_ | refine FW_condT rfl ?_ | refine FW_condF rfl ?_ | refine FW_exit ?_ | refine FW_ret ?_ | refine FW_skip ?_ | refine LW_ret ?_ | refine LW_skip ?_ | refine thenE_exit ?_ | refine thenE_ret ?_ | refine inBlockE_normal ?_ | refine inBlockE_same ?_ | refine inBlockE_ret ?_ | refine inBlockE_ne (by rfl) ?_ | refine OW_eqlB (by with_reducible exact und_bool) rfl rfl ?_ | refine OW_neqB (by with_reducible exact und_bool) rfl rfl ?_ | refine OW_idxS (by with_reducible exact und_bytes) one_u8 rfl rfl _ rfl (by omega) ?_ | refine OW_idxS (by with_reducible exact und_bytess) one_bytes rfl rfl _ rfl (by omega) ?_ | refine OW_load1 (by first | with_reducible exact one_u8 | with_reducible exact one_bytes) rfl _ (by assumption) ?_ | (refine OW_isLoad ?_; refine OW_loadBk (by first | with_reducible exact one_u8 | with_reducible exact one_bytes | with_reducible exact one_bool | with_reducible exact one_int | with_reducible exact one_errno | with_reducible exact one_u32 | with_reducible exact one_u64 | with_reducible exact one_string | with_reducible exact one_bytess | with_reducible exact s_int) rfl (by apply_assumption; assumption) _ (by first | assumption | rfl) ?_) | refine OW_load1 (by first | with_reducible exact one_u8 | with_reducible exact one_bytes | with_reducible exact one_bool | with_reducible exact one_int | with_reducible exact one_errno | with_reducible exact one_u32 | with_reducible exact one_u64 | with_reducible exact one_string | with_reducible exact one_bytess | with_reducible exact s_int) rfl _ (by apply_assumption; assumption) ?_)
         refine OW_nil ?_
         exact stay_mk _ _ _ _)
    | refine OY_a (actY_of rfl ?_)
    | refine OY_d (actY_of rfl ?_)
    | refine OY_a (actY_pass rfl rfl ?_)
    | refine OY_d (actY_pass rfl rfl ?_)
    | refine OY_a (actY_take rfl rfl ?_)
    | refine OY_d (actY_take rfl rfl ?_))
  exact hEnd.out) (k : B) : A := h ⟨k⟩
set_option maxHeartbeats 8000000 in
theorem refNext_any (w : World) (A : Option Addr) (c : Nat) (b : List UInt8) (hb : Bs w A b) (hc : b.length ≤ c) (hl : b.length ≤ 100000) :
    Calls Try.prog 75 #[.slice A b.length c] w (NextP w b) := by
  have hT := refLoad_any w A b c 0 4 4 rfl (by decide) hb (by omega) (by decide)
  have hlt := loadL4_lt b
  have hno : ¬ (4 ≤ b.length ∧ loadL (b.take 4) ≤ 65536 ∧ loadL (b.take 4) + 12 ≤ b.length ∧ sealB (b.take (4 + loadL (b.take 4))) = b.take (loadL (b.take 4) + 12)) → nextL b = none := fun h => by unfold nextL; rw [if_neg h]
  have hyes : (4 ≤ b.length ∧ loadL (b.take 4) ≤ 65536 ∧ loadL (b.take 4) + 12 ≤ b.length ∧ sealB (b.take (4 + loadL (b.take 4))) = b.take (loadL (b.take 4) + 12)) → nextL b = some ((b.drop 4).take (loadL (b.take 4))) := fun h => by unfold nextL; rw [if_pos h]
  refine calls_of_CW Try.func75 rfl (by simp [Try.ntmps75]) ?_
  rw [Try.ntmps75]
  refine go_Frm2 (k := ?_)
  refine OW_callV Try.func81 (by kernel_rfl) rfl hT rfl ?_
  intro w1 hx1
  by_cases h4 : 4 ≤ b.length
  rotate_left 1
  · rw [(ld4no h4).1, (ld4no h4).2]
    refine go_Frm2 (k := ?_)
    exact bodyE_ret3 rfl (.slice none 0 0) (.int .i64 0) (.int .i64 50) rfl rfl rfl (.inl ⟨hno (fun h => h4 h.1), rfl, hx1⟩)
  rw [(ld4 h4).1, (ld4 h4).2]
  obtain ⟨n, hn⟩ : ∃ n, loadL (b.take 4) = n := ⟨_, rfl⟩
  have hfr : n ≤ 65536 → n + 12 ≤ b.length → frameB ((b.drop 4).take n) = sealB (b.take (4 + n)) := fun h1 h2 => by
    unfold frameB
    rw [show ((b.drop 4).take n).length = n by rw [List.length_take, List.length_drop]; omega, ← hn, putL_loadL 4 (b.take 4) (by rw [List.length_take]; omega), List.take_add]
  rw [hn] at hno hyes hlt ⊢
  by_cases h5 : n ≤ 65536
  rotate_left 1
  · refine go_Frm2 (k := ?_)
    rw [decide_eq_true (show (65536 : Int) < n by omega)]
    refine go_Frm2 (k := ?_)
    exact bodyE_ret3 rfl (.slice none 0 0) (.int .i64 0) (.int .i64 50) rfl rfl rfl (.inl ⟨hno (fun h => h5 h.2.1), rfl, hx1⟩)
  by_cases h6 : n + 12 ≤ b.length
  rotate_left 1
  · refine go_Frm2 (k := ?_)
    rw [decide_eq_false (show ¬ (65536 : Int) < n by omega)]
    refine go_Frm2 (k := ?_)
    rw [decide_eq_true (show (b.length : Int) < n + 12 by omega)]
    refine go_Frm2 (k := ?_)
    exact bodyE_ret3 rfl (.slice none 0 0) (.int .i64 0) (.int .i64 50) rfl rfl rfl (.inl ⟨hno (fun h => h6 h.2.2.1), rfl, hx1⟩)
  refine go_Frm2 (k := ?_)
  rw [decide_eq_false (show ¬ (65536 : Int) < n by omega)]
  refine go_Frm2 (k := ?_)
  rw [decide_eq_false (show ¬ (b.length : Int) < n + 12 by omega)]
  refine go_Frm2 (k := ?_)
  refine OW_sliceBs und_bytes one_u8 (hb.ext hx1) rfl hc rfl ⟨_, rfl⟩ ⟨_, rfl⟩ 4 (4 + n) rfl (by omega) (by omega) ?_
  intro A2 hb2 hl2
  rw [show 4 + n - 4 = n by omega] at hb2 hl2 ⊢
  replace hfr := hfr h5 h6
  obtain ⟨p, hp⟩ : ∃ p, (b.drop 4).take n = p := ⟨_, rfl⟩
  rw [hp] at hb2 hl2 hyes hfr
  clear hp
  subst hl2
  refine go_Frm2 (k := ?_)
  refine OW_callBs Try.func57 (by kernel_rfl) rfl (refCopy_any w1 A2 p (c - 4) hb2 (by omega)) rfl ?_
  intro w2 X cX hX
  have hx02 := hx1.trans' hX.ext
  have hA0 : cutA A c 0 = A := by unfold cutA; split; rfl; cases A <;> rfl
  have hcut : Bs w (cutA A c 0) (b.take (p.length + 12)) := hb.cut c 0 (p.length + 12) (by omega)
  rw [hA0] at hcut
  have hl12 : (b.take (p.length + 12)).length = p.length + 12 := by rw [List.length_take]; omega
  have hfl := frameB_length p
  refine go_Frm2 (k := ?_)
  obtain ⟨C, hC⟩ : ∃ C : World → Prop, C = fun v => Ext w2 v := ⟨_, rfl⟩
  refine CW_tree2 [] (.p 0 (.p 2 (.p 3 (.p 4 (.p 5 (.d 1 (.d 6 (.p 7 .done)))))))) (C) (by kernel_rfl) (by kernel_rfl) (by kernel_rfl) ?_ ?_
  · exact inE hC
  intro w3 hx3 h_C
  refine oy_Frm2 (k := ?_)
  apply OY_p _ rfl
  · intro wd
    refine OW_slice (lv := 0) (hv := ((p.length + 12 : Nat) : Int)) (mv := c) und_bytes one_u8 rfl rfl ⟨_, by rw [show ((p.length + 12 : Nat) : Int) = (p.length : Int) + 12 by omega]; rfl⟩ rfl (fun h => by cases h) (by omega) ?_
    refine OW_nil ?_
    exact stay_mk _ _ _ _
  rw [Int.toNat_natCast, Int.toNat_natCast, Int.toNat_zero, hA0, Nat.sub_zero, Nat.sub_zero]
  refine oy_Frm2 (k := ?_)
  refine OW_callBs Try.func76 (by kernel_rfl) rfl (refSeal_any w3 X cX p (hX.bs.ext hx3) (by omega)) rfl ?_
  intro w4 A4 c4 hf4
  first | refine OW_nil (goY_mkE hC (hx3.trans' hf4.ext) ?_) | refine OW_nil (goY_dropE hC (hx3.trans' hf4.ext) ?_)
  refine oy_Frm2 (k := ?_)
  have hsm := refSame_any w4 A4 A (frameB p) (b.take (p.length + 12)) c4 c hf4.bs (hcut.ext ((hx02.trans' hx3).trans' hf4.ext)) (by omega)
  rw [hl12] at hsm
  refine OW_callV Try.func32 (by kernel_rfl) rfl hsm rfl ?_
  intro w5 hx5
  have hx05 := ((hx02.trans' hx3).trans' hf4.ext).trans' hx5
  by_cases h7 : frameB p = b.take (p.length + 12)
  rotate_left 1
  · rw [beq_eq_false_iff_ne.2 h7]
    first | refine OW_nil (goY_mkE hC ((hx3.trans' hf4.ext).trans' hx5) ?_) | refine OW_nil (goY_dropE hC ((hx3.trans' hf4.ext).trans' hx5) ?_)
    refine oy_Frm2 (k := ?_)
    refine go_Frm2 (k := ?_)
    exact bodyE_ret3 rfl (.slice none 0 0) (.int .i64 0) (.int .i64 50) rfl rfl rfl (.inl ⟨hno (fun h => h7 (by rw [hfr]; exact h.2.2.2)), rfl, hx05⟩)
  rw [beq_iff_eq.2 h7]
  first | refine OW_nil (goY_mkE hC ((hx3.trans' hf4.ext).trans' hx5) ?_) | refine OW_nil (goY_dropE hC ((hx3.trans' hf4.ext).trans' hx5) ?_)
  refine oy_Frm2 (k := ?_)
  have hnx := hyes ⟨h4, h5, h6, by rw [← hfr]; exact h7⟩
  refine go_Frm2 (k := ?_)
  exact bodyE_ret3 rfl (.slice X p.length cX) (.int .i64 ((p.length : Int) + 12)) (.int .i64 0) rfl rfl rfl (.inr ⟨p, X, cX, hnx, rfl, own_mono (own_ext hX.own ((hx3.trans' hf4.ext).trans' hx5)) hx1.size, hx05⟩)
/-- What All tells. -/
def AllP (w : World) (b : List UInt8) : Ending → World → Prop := fun en w' => ∃ A c vs, en = .returned (.tuple #[.slice A vs.length c, .int .i64 (framesB (vs.map pay)).length]) ∧ IsAll b (vs.map pay) ∧ RowsB w' w.heap.size A c vs ∧ Ext w w'
theorem framesB_le {b : List UInt8} {vs : List BV} {p : List UInt8} (h1 : (framesB (vs.map pay)).length ≤ b.length) (h2 : b.take (framesB (vs.map pay)).length = framesB (vs.map pay)) (h3 : ∀ q ∈ vs.map pay, q.length ≤ 65536) (v : BV) (hv : pay v = p) (h : nextL (b.drop (framesB (vs.map pay)).length) = some p) :
    (framesB ((vs ++ [v]).map pay)).length ≤ b.length ∧ b.take (framesB ((vs ++ [v]).map pay)).length = framesB ((vs ++ [v]).map pay) ∧ (∀ q ∈ (vs ++ [v]).map pay, q.length ≤ 65536) ∧ (framesB ((vs ++ [v]).map pay)).length = (framesB (vs.map pay)).length + p.length + 12 := by
  obtain ⟨a1, a2, a3⟩ := drop_nextL h1 h2 h
  have e : (vs ++ [v]).map pay = vs.map pay ++ [p] := by simp [hv]
  rw [e]
  refine ⟨a1, a2, fun q hq => ?_, by rw [framesB_snoc, List.length_append, frameB_length]; omega⟩
  rcases List.mem_append.1 hq with h | h
  · exact h3 q h
  · rw [List.mem_singleton.1 h]; exact a3
set_option maxHeartbeats 8000000 in
theorem refAll_any (w : World) (A : Option Addr) (c : Nat) (b : List UInt8) (hb : Bs w A b) (hc : b.length ≤ c) (hl : b.length ≤ 100000) :
    Calls Try.prog 65 #[.slice A b.length c] w (AllP w b) := by
  have hnc : ∀ vs : List BV, 12 * vs.length ≤ (framesB (vs.map pay)).length := by
    intro vs
    induction vs with
    | nil => simp [framesB]
    | cons v vs ih => rw [List.map_cons, framesB_cons, List.length_append, frameB_length, List.length_cons]; omega
  refine calls_of_CW Try.func65 rfl (by simp [Try.ntmps65]) ?_
  rw [Try.ntmps65]
  refine go_Frm2 (k := ?_)
  refine CW_loop (fun e' w' => ∃ (vs : List BV) (A2 : Option Addr) (c2 : Nat), e' 0 = .slice A b.length c ∧ e' 4 = .slice A2 vs.length c2 ∧ e' 5 = .int .i64 (framesB (vs.map pay)).length ∧ (framesB (vs.map pay)).length ≤ b.length ∧ b.take (framesB (vs.map pay)).length = framesB (vs.map pay) ∧ (∀ q ∈ vs.map pay, q.length ≤ 65536) ∧ RowsB w' w.heap.size A2 c2 vs ∧ Ext w w') (fun e' _ => b.length - (intOf (e' 5)).toNat) ?_ ?_
  · exact ⟨[], none, 0, rfl, rfl, rfl, by simp [framesB], by simp [framesB], by simp, RowsB.nil _ _, Ext.rfl' _⟩
  rintro e1 w1 ⟨vs, A2, c2, q0, q4, q5, h1, h2, h3, hR, hx⟩
  rw [upd_self q0, upd_self q4, upd_self q5]
  have hcnt := hnc vs
  obtain ⟨at_, hat⟩ : ∃ a, (framesB (vs.map pay)).length = a := ⟨_, rfl⟩
  have hstep := fun v p (hv : pay v = p) => framesB_le (b := b) h1 h2 h3 v hv
  rw [hat] at hstep h1 hcnt ⊢
  refine go_Frm2 (k := ?_)
  refine OW_sliceBs und_bytes one_u8 (hb.ext hx) rfl hc rfl ⟨_, rfl⟩ rfl at_ b.length rfl rfl (by omega) ?_
  intro A3 hb3 hl3
  have hd : (b.drop at_).take (b.length - at_) = b.drop at_ := List.take_of_length_le (by rw [List.length_drop]; exact Nat.le_refl _)
  rw [hd] at hb3 hl3
  rw [← hl3]
  refine go_Frm2 (k := ?_)
  refine OW_callC Try.func75 (by kernel_rfl) rfl (refNext_any w1 A3 (c - at_) (b.drop at_) hb3 (by omega) (by omega)) rfl ?_
  rintro en w2 (⟨hn, rfl, hx2⟩ | ⟨p, A4, c4, hn, rfl, hf4⟩)
  · refine ⟨_, rfl, ?_⟩
    refine go_Frm2 (k := ?_)
    exact bodyE_ret2 rfl (.slice A2 vs.length c2) (.int .i64 at_) rfl rfl ⟨A2, c2, vs, by rw [hat], ⟨by rw [hat]; exact h1, h2, by rw [hat]; exact hn, h3⟩, hR.ext hx2, hx.trans' hx2⟩
  · refine ⟨_, rfl, ?_⟩
    obtain ⟨k1, k2, k3, k4⟩ := hstep (A4, c4, p) p rfl hn
    have hx2 := hf4.ext
    refine go_Frm2 (k := ?_)
    refine OW_lit [sv (A4, c4, p)] und_bytess info_bytes rfl rfl (by simp [sv, Value.oneCell']) (by decide) ?_
    intro w3 g3 hb3' hg3 hx3
    have hR3 := (hR.ext hx2).ext hx3
    refine go_Frm2 (k := ?_)
    refine OW_appendK und_bytess info_bytes rfl rfl rfl hR3.row (by simpa using hb3'.rd) rfl (by simp [sv, Value.oneCell']) (by unfold maxLen; omega) (by omega) (by have := hx.size; have := hx2.size; have := hx3.size; omega) ?_
    intro w4 A5 c5 ho5 hg5 hw5
    have hown : bvOwn w3 w.heap.size (A4, c4, p) := own_mono (own_ext hf4.own hx3) hx.size
    have hap : ∀ u ∈ vs, Apart u (A4, c4, p) := fun u hu k hk hk2 => by
      have h5 := (hR.each u hu).lt hk
      obtain ⟨ad, ha, rfl⟩ := hk2
      have h6 := own_block hf4.own ad ha
      omega
    have hR4 := hR3.add hown hap hg5 ho5
    refine go_Frm2 (k := ?_)
    refine ⟨⟨vs ++ [(A4, c4, p)], A5, c5, rfl, by rw [List.length_append]; rfl, by rw [k4]; simp only [Int.natCast_add]; rw [Int.add_assoc]; rfl, k1, k2, k3, hR4, ?_⟩, ?_⟩
    · exact (Keeps.of_grown (S := fun k => w.heap.size ≤ k) hg5 (fun k hk => (hR3.row.lt k hk).1)).ext ((hx.trans' hx2).trans' hx3) (fun k hk => hk)
    · show b.length - ((at_ : Int) + ((p.length : Int) + 12)).toNat < b.length - (at_ : Int).toNat
      rw [k4] at k1
      omega
/-- What the iterator hands on: where the frame ends, its payload. -/
abbrev FV := Nat × BV
def okF (b : List UInt8) (B0 : Nat) (S : Nat → Prop) (pre : List FV) (x : FV) (w : World) : Prop :=
  bvOwn w B0 x.2 ∧ nextL (b.drop (framesB ((pre.map Prod.snd).map pay)).length) = some (pay x.2) ∧ x.1 = (framesB (((pre ++ [x]).map Prod.snd).map pay)).length ∧ ∀ k, bvB x.2 k → ¬ S k
theorem bvOwn.noloop {w w' : World} {base : Nat} {v : BV} {D : Nat} {st : Loop} (h : bvOwn w base v) (hl : w.heap[D]? = some (.loop st)) (hk : Keeps w w' (· = D)) : bvOwn w' base v :=
  h.keeps hk (fun k ⟨ad, ha, hb⟩ hD => by
    rcases own_at h with h1 | ⟨g, cur, h1, h2⟩
    · rw [h1] at ha; cases ha
    · rw [h1] at ha
      cases ha
      simp only at hb
      rw [hb, hD, hl] at h2
      cases h2)
def uF (gB : Nat) (A : Option Addr) (n : Nat) (k : Nat) : Prop := k = gB ∨ (0 < n ∧ ∃ ad, A = some ad ∧ ad.block = k)
def preF (b : List UInt8) (B0 gB : Nat) (A : Option Addr) (c : Nat) (W : World) : Prop := B0 ≤ W.heap.size ∧ Blk W gB 31 #[.slice A b.length c] ∧ Bs W A b
theorem run_loadOne {P : Program} {t : TypeId} {ad : Addr} {w : World} (ht : OneT P t) {v : Value} (hc : w.cell? ad = some v) : (loadVar t ad).run P w = .ok v w := by
  simp [loadVar, Sem.run_bind, ht.agg w, load, Sem.run, hc]
theorem bodyE_ret1c1c {P : Program} {fn : Func} {R : Ending → World → Prop} {e : Nat → Value} {w : World} {t u : Tmp} {ty ty' : TypeId} {a b : Addr} (hr : fn.results = #[.cell t ty, .cell u ty']) (ht : OneT P ty) (hu : OneT P ty') (hv : e t = .pointer (some a)) (hv' : e u = .pointer (some b)) {v v' : Value} (hc : w.cell? a = some v) (hc' : w.cell? b = some v')
    (hR : R (.returned (.tuple #[v, v'])) w) : bodyE P fn R .ret e w := by
  unfold bodyE
  refine ⟨.tuple #[v, v'], fun tmps htm => ?_, hR⟩
  have h1 := run_loadOne (w := w) ht hc
  have h2 := run_loadOne (w := w) hu hc'
  simp [results, hr, htm, hv, hv', asAddr, h1, h2]
theorem own_block_or {A A5 : Option Addr} {n c m c5 : Nat} {g : Nat} (h : Value.ownBlock (.slice A5 m c5) = Value.ownBlock (.slice A n c) ∨ Value.ownBlock (.slice A5 m c5) = some g) {ad : Addr} (ha : A5 = some ad) : (∃ ad2, A = some ad2 ∧ ad2.block = ad.block) ∨ ad.block = g := by
  subst ha
  rcases h with h | h
  · cases A with
    | none => cases h
    | some ad2 => exact .inl ⟨ad2, rfl, by injection h with h; exact h.symm⟩
  · injection h with h; exact .inr h
/-- What a loop over frames keeps, that gathers the payloads in a cell. -/
structure Gath (w0 : Nat) (wx : World) (g2 : Nat) (S : Nat → Prop) (vs : List BV) (W : World) (A2 : Option Addr) (c2 : Nat) : Prop where
  cell : Blk W g2 22 #[.slice A2 vs.length c2]
  rows : RowsB W w0 A2 c2 vs
  in2 : S g2
  inA : ∀ ad, A2 = some ad → S ad.block
  inV : ∀ v ∈ vs, ∀ k, bvB v k → S k
  bd : ∀ k, S k → w0 ≤ k ∧ k < W.heap.size
  ext : Ext wx W
theorem Gath.keeps {w0 : Nat} {wx W W' : World} {g2 : Nat} {S X : Nat → Prop} {vs : List BV} {A2 : Option Addr} {c2 : Nat} (h : Gath w0 wx g2 S vs W A2 c2) (hk : Keeps W W' X) (hn : ∀ k, S k → ¬ X k) (hx : ∀ k, X k → wx.heap.size ≤ k) : Gath w0 wx g2 S vs W' A2 c2 :=
  ⟨h.cell.keeps hk (hn _ h.in2), h.rows.keeps hk (fun ad ha => hn _ (h.inA ad ha)) (fun v hv k hk2 => hn _ (h.inV v hv k hk2)), h.in2, h.inA, h.inV, fun k hk2 => ⟨(h.bd k hk2).1, Nat.lt_of_lt_of_le (h.bd k hk2).2 hk.size⟩, hk.ext h.ext hx⟩
/-- One payload more: the cell's list, and the cell, written. -/
theorem Gath.add {w0 : Nat} {wx W W4 W5 W6 : World} {g2 : Nat} {S : Nat → Prop} {vs : List BV} {v : BV} {A2 A5 : Option Addr} {c2 c5 : Nat} (h : Gath w0 wx g2 S vs W A2 c2) (hw0 : w0 = wx.heap.size) (hv : bvOwn W w0 v) (hn : ∀ k, bvB v k → ¬ S k) (hx4 : Ext W W4)
    (ho5 : W5.ownsRow w0 31 1 (.slice A5 (vs.length + 1) c5) (vs.length + 1) (vs.map sv ++ [sv v])) (hg5 : W4.grownBy W5 (Value.ownBlock (.slice A2 vs.length c2))) (hw5 : Value.ownBlock (.slice A5 (vs.length + 1) c5) = Value.ownBlock (.slice A2 vs.length c2) ∨ Value.ownBlock (.slice A5 (vs.length + 1) c5) = some W4.heap.size)
    (hb6 : Blk W6 g2 22 #[.slice A5 (vs.length + 1) c5]) (hg6 : W5.grownBy W6 (some g2)) : Gath w0 wx g2 (fun k => S k ∨ bvB v k ∨ (W.heap.size ≤ k ∧ k < W6.heap.size)) (vs ++ [v]) W6 A5 c5 ∧ Keeps W W6 S := by
  have hR4 := h.rows.ext hx4
  have hap : ∀ u ∈ vs, Apart u v := fun u hu k hk hk2 => hn k hk2 (h.inV u hu k hk)
  have hR5 := hR4.add (own_ext hv hx4) hap hg5 ho5
  have hk5 : Keeps W4 W5 S := Keeps.of_grown hg5 (fun g hg => by
    cases A2 with
    | none => cases hg
    | some ad => cases hg; exact h.inA ad rfl)
  have hk6 : Keeps W5 W6 (· = g2) := Keeps.of_only hg6 rfl
  have hK : Keeps W W6 S := (Keeps.of_ext hx4 S).trans' (hk5.trans' (hk6.mono fun k _ hk => by rw [hk]; exact h.in2))
  have hc5 : Blk W5 g2 22 #[.slice A2 vs.length c2] := (h.cell.ext hx4).keeps (S := fun k => ∃ ad, A2 = some ad ∧ ad.block = k) (Keeps.of_grown hg5 (fun g hg => by
    cases A2 with
    | none => cases hg
    | some ad => cases hg; exact ⟨ad, rfl, rfl⟩)) (fun ⟨ad, ha, hb⟩ => own_ne_blk hR4.row (h.cell.ext hx4) (by decide) ad ha hb)
  have s4 := hx4.size
  have s5 := hk5.size
  have s6 := hk6.size
  have hb2 := h.bd g2 h.in2
  refine ⟨⟨?_, hR5.keeps hk6 (fun ad ha => own_ne_blk hR5.row hc5 (by decide) ad ha) (fun u hu k ⟨ad, ha, hb⟩ hk => own_ne_blk (hR5.each u hu) hc5 (by decide) ad ha (by rw [hb, hk])), .inl h.in2, fun ad ha => ?_, fun u hu k hk => ?_, fun k hk => ?_, hK.ext h.ext (fun k hk => by rw [← hw0]; exact (h.bd k hk).1)⟩, hK⟩
  · rw [List.length_append]; exact hb6
  · rcases own_block_or hw5 ha with ⟨ad2, ha2, hb⟩ | hb
    · rw [← hb]; exact .inl (h.inA ad2 ha2)
    · have := (own_block hR5.row ad ha).2
      exact .inr (.inr ⟨by omega, by omega⟩)
  · rcases List.mem_append.1 hu with h1 | h1
    · exact .inl (h.inV u h1 k hk)
    · rw [List.mem_singleton.1 h1] at hk; exact .inr (.inl hk)
  · rcases hk with hk | hk | hk
    · have := h.bd k hk; omega
    · have := hv.lt hk; omega
    · have := h.ext.size; omega
end Go.Proofs.Ytnfeibbnjdegfaa

/- A disk, plainly. No program in sight. -/
namespace Go.Proofs.Ytnfeibbnjdegfaa
open Go Go.RowKit
set_option linter.unusedVariables false
structure DS where
  up : Bool
  s : List UInt8
  ws : List (List UInt8)
def DS.all (d : DS) : List UInt8 := d.s ++ d.ws.flatten
def dNew : DS := ⟨true, [], []⟩
def dWrite (d : DS) (b : List UInt8) : Int × DS := if d.up then (0, ⟨true, d.s, d.ws ++ [b]⟩) else (60, d)
def dSync (d : DS) : Int × DS := if d.up then (0, ⟨true, d.all, []⟩) else (60, d)
/-- How much of the next write stays. -/
def tornN (d : DS) (k t : Nat) : Nat := if h : k < d.ws.length then min t ((d.ws[k]).length - 1) else 0
def crashN (d : DS) (k t : Nat) : Nat := d.s.length + (d.ws.take k).flatten.length + tornN d k t
def dCrash (d : DS) (k t : Int) : Int × DS := if d.up then (if min k t < 0 then (2, d) else (0, ⟨false, d.all.take (crashN d k.toNat t.toNat), []⟩)) else (60, d)
def dStart (d : DS) : Int × DS := if d.up then (2, d) else (0, ⟨true, d.s, d.ws⟩)
def dCut (d : DS) (n : Int) : Int × DS := if d.up then (if n < 0 ∨ (d.all.length : Int) < n then (2, d) else (0, ⟨true, d.all.take n.toNat, []⟩)) else (60, d)
theorem flat_split (ws : List (List UInt8)) (k : Nat) : ws.flatten = (ws.take k).flatten ++ (ws.drop k).flatten := by
  conv => lhs; rw [← List.take_append_drop k ws]
  rw [List.flatten_append]
theorem ws_take_succ {ws : List (List UInt8)} {k : Nat} (h : k < ws.length) : (ws.take (k + 1)).flatten = (ws.take k).flatten ++ ws[k] := by
  rw [List.take_succ_eq_append_getElem h, List.flatten_append]; simp
theorem take_two {a b c : List UInt8} {n m : Nat} (h : n = a.length + b.length + m) : (a ++ (b ++ c)).take n = a ++ (b ++ c.take m) := by
  subst h
  rw [List.take_append, List.take_of_length_le (by omega), show a.length + b.length + m - a.length = b.length + m by omega, List.take_append, List.take_of_length_le (by omega), show b.length + m - b.length = m by omega]
theorem crash_parts (d : DS) (k t : Nat) (h : k < d.ws.length) : d.s ++ ((d.ws.take k).flatten ++ (d.ws[k]).take (min t ((d.ws[k]).length - 1))) = d.all.take (crashN d k t) := by
  have h1 := flat_split d.ws k
  rw [List.drop_eq_getElem_cons h, List.flatten_cons] at h1
  obtain ⟨Z, hZ⟩ : ∃ Z, (d.ws.take k).flatten = Z := ⟨_, rfl⟩
  obtain ⟨Y, hY⟩ : ∃ Y, d.ws[k] = Y := ⟨_, rfl⟩
  have h2 : d.all = d.s ++ (Z ++ (Y ++ (d.ws.drop (k + 1)).flatten)) := by unfold DS.all; rw [h1, hZ, hY]
  unfold crashN tornN
  rw [dif_pos h, hZ, hY, h2, take_two rfl, List.take_append_of_le_length (by omega)]
theorem crash_whole (d : DS) (k t : Nat) (h : ¬ k < d.ws.length) : d.s ++ (d.ws.take k).flatten = d.all.take (crashN d k t) := by
  unfold DS.all crashN tornN
  rw [dif_neg h, List.take_of_length_le (by omega : d.ws.length ≤ k), List.take_of_length_le (by rw [List.length_append]; omega)]
theorem crashN_le (d : DS) (k t : Nat) : crashN d k t ≤ d.all.length := by
  unfold DS.all crashN tornN
  rw [List.length_append]
  have h1 := congrArg List.length (flat_split d.ws k)
  rw [List.length_append] at h1
  split
  · rename_i h
    rw [List.drop_eq_getElem_cons h, List.flatten_cons, List.length_append] at h1
    omega
  · omega
/-- Where the writes end. -/
def dEnds (d : DS) : List Int := (List.range d.ws.length).map fun i => ((d.s.length + (d.ws.take (i + 1)).flatten.length : Nat) : Int)
theorem dEnds_length (d : DS) : (dEnds d).length = d.ws.length := by simp [dEnds]
theorem dEnds_get {d : DS} {k : Nat} (h : k < d.ws.length) : (dEnds d)[k]'(by rw [dEnds_length]; exact h) = ((d.s.length + (d.ws.take (k + 1)).flatten.length : Nat) : Int) := by simp [dEnds]
theorem dEnds_write (u : Bool) (s : List UInt8) (ws : List (List UInt8)) (b : List UInt8) (u' : Bool) : dEnds ⟨u', s, ws ++ [b]⟩ = dEnds ⟨u, s, ws⟩ ++ [(((DS.all ⟨u, s, ws⟩) ++ b).length : Int)] := by
  unfold dEnds DS.all
  simp only [List.length_append, List.length_singleton, List.range_succ, List.map_append, List.map_cons, List.map_nil]
  congr 1
  · apply List.map_congr_left
    intro i hi
    have hi' : i < ws.length := List.mem_range.1 hi
    rw [List.take_append_of_le_length (by omega)]
  · congr 1
    rw [List.take_of_length_le (by simp)]
    simp
    omega
theorem dAll_write (u : Bool) (s : List UInt8) (ws : List (List UInt8)) (b : List UInt8) : DS.all ⟨u, s, ws ++ [b]⟩ = DS.all ⟨u, s, ws⟩ ++ b := by simp [DS.all]
/-- An act. -/
structure AD where
  kind : Int
  n : Int
  m : Int
  B : List UInt8
def dAct (d : DS) (a : AD) : Int × DS :=
  if a.kind = 0 ∨ a.kind = 1 ∨ a.kind = 2 then dWrite d a.B else if a.kind = 3 then dSync d else if a.kind = 4 then dCrash d a.n a.m else if a.kind = 5 ∨ a.kind = 6 then dStart d else if a.kind = 7 then dCut d a.n else (0, d)
theorem prefix_take {a b : List UInt8} (h : a <+: b) : a.length ≤ b.length ∧ b.take a.length = a := ⟨h.length_le, (List.prefix_iff_eq_take.1 h).symm⟩
theorem dAll_len_act (d : DS) (a : AD) : (dAct d a).2.all.length ≤ d.all.length + a.B.length ∧ (dAct d a).2.ws.length ≤ d.ws.length + 1 := by
  unfold dAct dWrite dSync dCrash dStart dCut
  repeat' split
  all_goals simp [DS.all]
  all_goals omega
theorem dWrite_refused (d : DS) (b : List UInt8) (h : (dWrite d b).1 ≠ 0) : (dWrite d b).2 = d := by
  unfold dWrite at h ⊢
  split
  · rename_i hh; rw [if_pos hh] at h; exact absurd rfl h
  · rfl
theorem dSync_refused (d : DS) (h : (dSync d).1 ≠ 0) : (dSync d).2 = d := by
  unfold dSync at h ⊢
  split
  · rename_i hh; rw [if_pos hh] at h; exact absurd rfl h
  · rfl
theorem dStart_refused (d : DS) (h : (dStart d).1 ≠ 0) : (dStart d).2 = d := by
  unfold dStart at h ⊢
  split
  · rfl
  · rename_i hh; rw [if_neg hh] at h; exact absurd rfl h
theorem dCrash_refused (d : DS) (k t : Int) (h : (dCrash d k t).1 ≠ 0) : (dCrash d k t).2 = d := by
  unfold dCrash at h ⊢
  split
  · rename_i hh; rw [if_pos hh] at h
    split
    · rfl
    · rename_i h2; rw [if_neg h2] at h; exact absurd rfl h
  · rfl
theorem dCut_refused (d : DS) (n : Int) (h : (dCut d n).1 ≠ 0) : (dCut d n).2 = d := by
  unfold dCut at h ⊢
  split
  · rename_i hh; rw [if_pos hh] at h
    split
    · rfl
    · rename_i h2; rw [if_neg h2] at h; exact absurd rfl h
  · rfl
theorem dAct_refused (d : DS) (a : AD) (h : (dAct d a).1 ≠ 0) : (dAct d a).2 = d := by
  unfold dAct at h ⊢
  split
  · rename_i hh; rw [if_pos hh] at h; exact dWrite_refused _ _ h
  rename_i h0; rw [if_neg h0] at h
  split
  · rename_i hh; rw [if_pos hh] at h; exact dSync_refused _ h
  rename_i h1; rw [if_neg h1] at h
  split
  · rename_i hh; rw [if_pos hh] at h; exact dCrash_refused _ _ _ h
  rename_i h2; rw [if_neg h2] at h
  split
  · rename_i hh; rw [if_pos hh] at h; exact dStart_refused _ h
  rename_i h3; rw [if_neg h3] at h
  split
  · rename_i hh; rw [if_pos hh] at h; exact dCut_refused _ _ h
  · rfl
theorem dAct_down (d : DS) (a : AD) (hu : d.up = false) (h : 0 ≤ a.kind ∧ a.kind ≤ 4) : (dAct d a).1 = 60 := by
  unfold dAct dWrite dSync dCrash
  rw [hu]
  have : a.kind = 0 ∨ a.kind = 1 ∨ a.kind = 2 ∨ a.kind = 3 ∨ a.kind = 4 := by omega
  rcases this with h | h | h | h | h <;> simp [h]
theorem take_pre {l : List UInt8} {a b : Nat} (h : a ≤ b) : l.take a <+: l.take b := List.prefix_of_prefix_length_le (List.take_prefix a l) (List.take_prefix b l) (by simp; omega)
theorem s_pre (d : DS) : d.s <+: d.all := List.prefix_append _ _
theorem s_pre_take (d : DS) {n : Nat} (h : d.s.length ≤ n) : d.s <+: d.all.take n := by
  have h1 : d.s = d.all.take d.s.length := by unfold DS.all; rw [List.take_append_of_le_length (Nat.le_refl _), List.take_of_length_le (Nat.le_refl _)]
  conv => lhs; rw [h1]
  exact take_pre h
theorem dAct_synced (d : DS) (a : AD) (h : a.kind ≠ 7) : d.s <+: (dAct d a).2.all := by
  unfold dAct
  split
  · unfold dWrite; split
    · exact List.prefix_append _ _
    · exact s_pre d
  split
  · unfold dSync; split
    · show d.s <+: DS.all ⟨true, d.all, []⟩
      rw [show DS.all ⟨true, d.all, []⟩ = d.all from List.append_nil _]
      exact s_pre d
    · exact s_pre d
  split
  · unfold dCrash; split
    · split
      · exact s_pre d
      · show d.s <+: DS.all ⟨false, d.all.take _, []⟩
        rw [show ∀ n, DS.all ⟨false, d.all.take n, []⟩ = d.all.take n from fun n => List.append_nil _]
        exact s_pre_take d (by unfold crashN; omega)
    · exact s_pre d
  split
  · unfold dStart; split
    · exact s_pre d
    · exact s_pre d
  exact s_pre d
theorem dAct_cut (d : DS) (a : AD) (h : a.kind = 7) : (dAct d a).2.all <+: d.all := by
  unfold dAct
  rw [if_neg (by omega), if_neg (by omega), if_neg (by omega), if_neg (by omega), if_pos h]
  unfold dCut; split
  · split
    · exact List.prefix_refl _
    · show DS.all ⟨true, d.all.take _, []⟩ <+: d.all
      rw [show ∀ n, DS.all ⟨true, d.all.take n, []⟩ = d.all.take n from fun n => List.append_nil _]
      exact List.take_prefix _ _
  · exact List.prefix_refl _
end Go.Proofs.Ytnfeibbnjdegfaa

/- A number's own bits. No program in sight. -/
namespace Go.Proofs.Ytnfeibbnjdegfaa
open Go Go.RowKit
/-- A number's own 64 bits. -/
def u64N (n : Int) : Nat := (n % 18446744073709551616).toNat
theorem u64N_lt (n : Int) : u64N n < 18446744073709551616 := by unfold u64N; omega
theorem wrap_u64I (n : Int) : IntKind.u64.wrap n = (u64N n : Int) := by
  have h : IntKind.u64.wrap n = n % 18446744073709551616 := by simp [IntKind.wrap, IntKind.signed, IntKind.bits]
  rw [h]; unfold u64N; omega
def u32N (n : Int) : Nat := (n % 4294967296).toNat
theorem u32N_lt (n : Int) : u32N n < 4294967296 := by unfold u32N; omega
theorem wrap_u32I (n : Int) : IntKind.u32.wrap n = (u32N n : Int) := by
  have h : IntKind.u32.wrap n = n % 4294967296 := by simp [IntKind.wrap, IntKind.signed, IntKind.bits]
  rw [h]; unfold u32N; omega
/-- Numbers, one behind the other. -/
def numsB (l : List Int) : List UInt8 := (l.map fun n => putL (u64N n) 8).flatten
theorem numsB_length (l : List Int) : (numsB l).length = 8 * l.length := by
  induction l with
  | nil => rfl
  | cons n l ih => simp only [numsB, List.map_cons, List.flatten_cons, List.length_append, putL_length, List.length_cons] at ih ⊢; omega
theorem numsB_snoc (l : List Int) (n : Int) : numsB (l ++ [n]) = numsB l ++ putL (u64N n) 8 := by simp [numsB]
def iv (n : Int) : Value := .int .i64 n
end Go.Proofs.Ytnfeibbnjdegfaa

/- Data that comes in: plain types and lists of them. -/
namespace Go.Proofs.Ytnfeibbnjdegfaa
open Go Go.RowKit Go.ChangeShapes Go.WideShapes
set_option linter.unusedVariables false
theorem okWide_array {P : Program} {w : World} {r : Reach} {base : Nat} {t el : TypeId} {m : Nat} {v : Value} (ht : P.underlying t = some (.array m el)) (h : Value.okWide P w r base t v) : ∃ cs, v = .agg cs ∧ cs.size = P.cellsOf t := by
  simp only [Value.okWide, ht] at h
  obtain ⟨cs, h1, h2, _⟩ := h
  exact ⟨cs, h1, h2⟩
theorem kd_arr {P : Program} {t el : TypeId} {m : Nat} {α : Type} {H : Type} {enc : TypeId × Value → H} {w : World} {v : Value} {d : DataW H} {ps : List MemPlace} {r : Reach} {b0 : Nat} (k : KD P t α) (ht : P.underlying t = some (.array m el)) (hv : Value.okWide P w r b0 t v) (h : DataW.Trod enc P w 0 (fun _ => true) true t v d ps) (hw : WOk P t d) : ∃ cs a, v = .agg cs.toArray ∧ k.R w cs a := by
  obtain ⟨cs, rfl, hsz⟩ := okWide_array ht hv
  obtain ⟨fuel, hf⟩ := h
  obtain ⟨a, ha⟩ := k.opn hf hw
  exact ⟨cs.toList, a, by simp, ha⟩
def kI : KD Try.prog 3 Int := kInt und_int (by kernel_rfl)
def kB8 : KD Try.prog 5 UInt8 := kU8 und_u8 (by kernel_rfl)
def kBo : KD Try.prog 4 Bool := kBool und_bool (by kernel_rfl)
def kSt : KD Try.prog 9 ByteArray := kStr Try.underlying9 (by kernel_rfl)
def kBs : KD Try.prog 31 (List UInt8) := kBytes und_bytes und_u8 (by kernel_rfl) (by kernel_rfl) (of_decide_eq_true (by kernel_rfl))
def kTag : KD Try.prog 103 (List UInt8) := kArr s_und_Tag und_u8 (by kernel_rfl) (by kernel_rfl)
theorem und_ints : Try.prog.underlying 48 = some (.slice 3) := Try.underlying48
theorem und_bools : Try.prog.underlying 58 = some (.slice 4) := Try.underlying58
def kIs : KD Try.prog 48 (List Int) := kSlice kI und_ints (by kernel_rfl) (of_decide_eq_true (by kernel_rfl))
def kBos : KD Try.prog 58 (List Bool) := kSlice kBo und_bools (by kernel_rfl) (of_decide_eq_true (by kernel_rfl))
def kBss : KD Try.prog 22 (List (List UInt8)) := kSlice kBs und_bytess (by kernel_rfl) (of_decide_eq_true (by kernel_rfl))
/-- A slice of numbers. -/
def Is (w : World) (A : Option Addr) (l : List Int) : Prop := Rd w A (l.map iv)
theorem Is.ext {w w' : World} {A : Option Addr} {l : List Int} (h : Is w A l) (hx : Ext w w') : Is w' A l := Rd.ext h hx
theorem Is.at_ {w : World} {A : Option Addr} {l : List Int} (h : Is w A l) {j : Nat} (hj : j < l.length) : ∃ ad, A = some ad ∧ w.cell? (ad.add j) = some (.int .i64 l[j]) := by
  obtain ⟨ad, ha, hc⟩ := Rd.at_ h (j := j) (by simpa using hj)
  exact ⟨ad, ha, by simpa [iv] using hc⟩
theorem slr_one {w : World} {A : Option Addr} {α : Type} {R : World → List Value → α → Prop} {l : List α} (f : α → Value) (hf : ∀ cs a, R w cs a → cs = [f a]) (h : SlR 1 R w A l) : Rd w A (l.map f) := by
  intro j u hu
  have hj : j < l.length := by have := (List.getElem?_eq_some_iff.1 hu).1; simpa using this
  obtain ⟨ad, ce, e1, e2, e3, e4⟩ := h j hj
  have := hf _ _ e4
  subst this
  refine ⟨ad, e1, ?_⟩
  have h0 := e3 0 (f l[j]) rfl
  rw [addr_add_add, Nat.mul_one, Nat.add_zero] at h0
  rw [h0, ← hu, List.getElem?_map, List.getElem?_eq_getElem hj]
  rfl
theorem is_of {w : World} {A : Option Addr} {l : List Int} (h : SlR kI.n kI.R w A l) : Is w A l := slr_one iv (fun cs a hr => hr.1) h
theorem i64s_of {w : World} {A : Option Addr} {l : List Int} (h : SlR kI.n kI.R w A l) : ∀ n ∈ l, I64 n := fun n hn => by
  obtain ⟨i, hi, rfl⟩ := List.mem_iff_getElem.1 hn
  obtain ⟨ad, ce, e1, e2, e3, e4⟩ := h i hi
  exact e4.2
end Go.Proofs.Ytnfeibbnjdegfaa

/- Lists of lists of bytes that come in, or were told. -/
namespace Go.Proofs.Ytnfeibbnjdegfaa
open Go Go.RowKit
set_option linter.unusedVariables false
structure ArgL (w : World) (A : Option Addr) (vs : List BV) : Prop where
  rd : Rd w A (vs.map sv)
  bs : ∀ v ∈ vs, Bs w v.1 v.2.2 ∧ v.2.2.length ≤ v.2.1
theorem ArgL.ext {w w' : World} {A : Option Addr} {vs : List BV} (h : ArgL w A vs) (hx : Ext w w') : ArgL w' A vs := ⟨h.rd.ext hx, fun v hv => ⟨(h.bs v hv).1.ext hx, (h.bs v hv).2⟩⟩
theorem RowsB.arg {w : World} {base : Nat} {A : Option Addr} {c : Nat} {vs : List BV} (h : RowsB w base A c vs) : ArgL w A vs := ⟨h.rd, fun v hv => ⟨(h.each v hv).bs, (own_cap (h.each v hv)).1⟩⟩
theorem ArgL.cell {w : World} {A : Option Addr} {vs : List BV} (h : ArgL w A vs) {k : Nat} (hk : k < vs.length) : ∃ ad, A = some ad ∧ w.cell? (ad.add k) = some (sv vs[k]) := by
  obtain ⟨ad, ha, hc⟩ := Rd.at_ h.rd (j := k) (by simpa using hk)
  exact ⟨ad, ha, by simpa using hc⟩
theorem bvs_of {w : World} {A : Option Addr} {l : List (List UInt8)} (h : SlR kBs.n kBs.R w A l) : ∃ vs : List BV, vs.map pay = l ∧ ArgL w A vs := by
  have key : ∀ i, i < l.length → ∃ v : BV, ∀ hi : i < l.length, v.2.2 = l[i] ∧ Bs w v.1 v.2.2 ∧ v.2.2.length ≤ v.2.1 ∧ ∃ ad, A = some ad ∧ w.cell? (ad.add i) = some (sv v) := by
    intro i hi
    obtain ⟨ad, ce, e1, e2, e3, A', c', e4, e5, e6⟩ := h i hi
    refine ⟨(A', c', l[i]), fun _ => ⟨rfl, e6, e5.1, ad, e1, ?_⟩⟩
    subst e4
    have h0 := e3 0 (.slice A' l[i].length c') rfl
    rw [addr_add_add] at h0
    rw [show i * kBs.n + 0 = i by show i * 1 + 0 = i; omega] at h0
    exact h0
  obtain ⟨vs, hl, hv⟩ := choose_list l.length key
  have he : vs.map pay = l := by
    apply List.ext_getElem (by rw [List.length_map, hl])
    intro i h1 h2
    rw [List.getElem_map]
    exact (hv i (by simpa using h1) h2).1
  refine ⟨vs, he, ⟨fun j u hu => ?_, fun v hv2 => ?_⟩⟩
  · have hj : j < vs.length := by have := (List.getElem?_eq_some_iff.1 hu).1; simpa using this
    obtain ⟨_, _, _, ad, ha, hc⟩ := hv j hj (by omega)
    refine ⟨ad, ha, ?_⟩
    rw [hc, ← hu, List.getElem?_map, List.getElem?_eq_getElem hj]
    rfl
  · obtain ⟨i, hi, rfl⟩ := List.mem_iff_getElem.1 hv2
    have := hv i hi (by omega)
    exact ⟨this.2.1, this.2.2.1⟩
theorem slr_small {w : World} {A : Option Addr} {l : List (List UInt8)} (h : SlR kBs.n kBs.R w A l) : ∀ x ∈ l, x.length ≤ 140737488351232 := by
  intro x hx
  obtain ⟨i, hi, rfl⟩ := List.mem_iff_getElem.1 hx
  obtain ⟨ad, ce, e1, e2, e3, A', c', e4, e5, e6⟩ := h i hi
  exact Nat.le_trans e5.1 e5.2
theorem Apart.symm {u v : BV} (h : Apart u v) : Apart v u := fun k h1 h2 => h k h2 h1
/-- One byte of one list, written. -/
theorem RowsB.put {w : World} {base : Nat} {A : Option Addr} {c : Nat} {us : List BV} (h : RowsB w base A c us) {i k g : Nat} (hi : i < us.length) (hk : k < (us[i]).2.2.length) (hg : (us[i]).1 = some ⟨g, 0, none⟩) (x : UInt8) :
    RowsB (w.setCell ⟨g, k, none⟩ (bv x)) base A c (us.set i ((us[i]).1, (us[i]).2.1, (us[i]).2.2.set k x)) ∧ w.grownBy (w.setCell ⟨g, k, none⟩ (bv x)) (some g) := by
  have hgr := only_set w g k (bv x)
  have hK : Keeps w (w.setCell ⟨g, k, none⟩ (bv x)) (· = g) := Keeps.of_only hgr rfl
  have hi0 := h.each us[i] (List.getElem_mem hi)
  have hsv : sv ((us[i]).1, (us[i]).2.1, (us[i]).2.2.set k x) = sv us[i] := by unfold sv; rw [List.length_set]
  have hrow := own_keeps h.row hK (fun ad ha hb => own_ne_own h.row hi0 (by decide) ad _ ha hg hb)
  have hap : ∀ j, (hj : j < us.length) → j ≠ i → Apart us[j] us[i] := fun j hj hne => by
    have hp := List.pairwise_iff_getElem.1 h.apart
    rcases Nat.lt_or_ge j i with h1 | h1
    · exact hp j i hj hi h1
    · exact (hp i j hi hj (by omega)).symm
  refine ⟨⟨?_, fun v hv => ?_, ?_⟩, hgr⟩
  · rw [List.length_set, List.map_set, hsv]
    have : (us.map sv).set i (sv us[i]) = us.map sv := by
      apply List.ext_getElem (by simp)
      intro j h1 h2
      rw [List.getElem_set]
      split
      · rename_i hh; subst hh; simp
      · rfl
    rw [this]; exact hrow
  · obtain ⟨j, hj, rfl⟩ := List.mem_iff_getElem.1 hv
    rw [List.getElem_set]
    split
    · rename_i hh
      have hi1 := hi0
      unfold bvOwn at hi1 ⊢
      rw [hg] at hi1 ⊢
      simp only [List.length_set]
      exact (inc_step hi1 rfl hk x).1
    · rename_i hh
      have hj' : j < us.length := by simpa using hj
      exact (h.each us[j] (List.getElem_mem hj')).keeps hK (fun k' hk' hkg => hap j hj' (fun h => hh h.symm) k' hk' ⟨_, hg, hkg.symm⟩)
  · rw [List.pairwise_iff_getElem]
    intro a b ha hb hab
    have hp := List.pairwise_iff_getElem.1 h.apart
    have ha' : a < us.length := by simpa using ha
    have hb' : b < us.length := by simpa using hb
    have hB : ∀ j, (hj : j < us.length) → ∀ k', bvB ((us.set i ((us[i]).1, (us[i]).2.1, (us[i]).2.2.set k x))[j]'(by simpa using hj)) k' ↔ bvB us[j] k' := by
      intro j hj k'
      rw [List.getElem_set]
      split
      · rename_i hh; subst hh; exact Iff.rfl
      · exact Iff.rfl
    intro k' h1 h2
    exact hp a b ha' hb' hab k' ((hB a ha' k').1 h1) ((hB b hb' k').1 h2)
end Go.Proofs.Ytnfeibbnjdegfaa

/- Disks: their types; a disk that was made; what its blocks are. -/
namespace Go.Proofs.Ytnfeibbnjdegfaa
open Go Go.RowKit
set_option linter.unusedVariables false
theorem und_pD : Try.prog.underlying 25 = some (.pointer 41) := Try.underlying25
theorem fldo_D0 : FldO Try.prog 41 0 0 := ⟨fun w a => by kernel_rfl⟩
theorem fldo_D1 : FldO Try.prog 41 1 1 := ⟨fun w a => by kernel_rfl⟩
theorem fldo_D2 : FldO Try.prog 41 2 2 := ⟨fun w a => by kernel_rfl⟩
theorem fldo_D3 : FldO Try.prog 41 3 3 := ⟨fun w a => by kernel_rfl⟩
theorem d_ptr : OneT Try.prog 25 := ⟨.pointer none, 8, by kernel_rfl, rfl, by kernel_rfl⟩
/-- The blocks that a disk turns. -/
def dRow (g : Nat) (W : Option Addr) (k : Nat) : Prop := k = g ∨ ∃ ad, W = some ad ∧ ad.block = k
def dFar (S : Nat → Prop) (g : Nat) (W A : Option Addr) (l : List UInt8) : Prop := ∀ ad, A = some ad → l ≠ [] → S ad.block ∧ ¬ dRow g W ad.block
/-- A disk that was made, at block g; its blocks lie in S. -/
structure DR (w : World) (g : Nat) (S : Nat → Prop) (d : DS) : Prop where
  in_ : S g
  at_ : ∃ (A : Option Addr) (c : Nat) (W : Option Addr) (cW : Nat) (vs : List BV), Blk w g 41 #[.bool true, .bool d.up, .slice A d.s.length c, .slice W vs.length cW] ∧ (Bs w A d.s ∧ d.s.length ≤ c ∧ dFar S g W A d.s) ∧
    (w.ownsRow 0 31 1 (.slice W vs.length cW) vs.length (vs.map sv) ∧ ∀ ad, W = some ad → S ad.block ∧ ad.block ≠ g) ∧ vs.map pay = d.ws ∧ ∀ v ∈ vs, Bs w v.1 v.2.2 ∧ v.2.2.length ≤ v.2.1 ∧ dFar S g W v.1 v.2.2
  bd : ∀ k, S k → k < w.heap.size
theorem Bs.far {w w' : World} {S X : Nat → Prop} {g : Nat} {W A : Option Addr} {l : List UInt8} (h : Bs w A l) (hf : dFar S g W A l) (hk : Keeps w w' X) (hn : ∀ k, S k → ¬ dRow g W k → ¬ X k) : Bs w' A l := by
  by_cases hl : l = []
  · subst hl; exact Bs.nil _ _
  · exact h.keeps hk (fun ad ha => hn _ (hf ad ha hl).1 (hf ad ha hl).2)
theorem DR.keeps {w w' : World} {g : Nat} {S X : Nat → Prop} {d : DS} (h : DR w g S d) (hk : Keeps w w' X) (hn : ∀ k, S k → ¬ X k) : DR w' g S d := by
  obtain ⟨A, c, W, cW, vs, h1, ⟨h2, h3, h4⟩, ⟨h5, h6⟩, h7, h8⟩ := h.at_
  exact ⟨h.in_, ⟨A, c, W, cW, vs, h1.keeps hk (hn g h.in_), ⟨h2.far h4 hk (fun k hs _ => hn k hs), h3, h4⟩, ⟨own_keeps h5 hk (fun ad ha => hn _ (h6 ad ha).1), h6⟩, h7, fun v hv => ⟨(h8 v hv).1.far (h8 v hv).2.2 hk (fun k hs _ => hn k hs), (h8 v hv).2⟩⟩, fun k hk2 => Nat.lt_of_lt_of_le (h.bd k hk2) hk.size⟩
theorem DR.ext {w w' : World} {g : Nat} {S : Nat → Prop} {d : DS} (h : DR w g S d) (hx : Ext w w') : DR w' g S d :=
  h.keeps (Keeps.of_ext hx (fun _ => False)) (fun _ _ h => h)
theorem dFar.mono {S S' : Nat → Prop} {g : Nat} {W A : Option Addr} {l : List UInt8} (h : dFar S g W A l) (hs : ∀ k, S k → S' k) : dFar S' g W A l := fun ad ha hl => ⟨hs _ (h ad ha hl).1, (h ad ha hl).2⟩
theorem DR.mono {w : World} {g : Nat} {S S' : Nat → Prop} {d : DS} (h : DR w g S d) (hs : ∀ k, S k → S' k) (hb : ∀ k, S' k → k < w.heap.size) : DR w g S' d := by
  obtain ⟨A, c, W, cW, vs, h1, ⟨h2, h3, h4⟩, ⟨h5, h6⟩, h7, h8⟩ := h.at_
  exact ⟨hs g h.in_, ⟨A, c, W, cW, vs, h1, ⟨h2, h3, h4.mono hs⟩, ⟨h5, fun ad ha => ⟨hs _ (h6 ad ha).1, (h6 ad ha).2⟩⟩, h7, fun v hv => ⟨(h8 v hv).1, (h8 v hv).2.1, (h8 v hv).2.2.mono hs⟩⟩, hb⟩
/-- A disk that nobody made. -/
def NoD (w : World) (A : Option Addr) : Prop := A = none ∨ ∃ g cs, A = some ⟨g, 0, none⟩ ∧ Blk w g 41 cs ∧ cs[0]? = some (.bool false)
theorem NoD.ext {w w' : World} {A : Option Addr} (h : NoD w A) (hx : Ext w w') : NoD w' A := by
  rcases h with h | ⟨g, cs, h1, h2, h3⟩
  · exact .inl h
  · exact .inr ⟨g, cs, h1, h2.ext hx, h3⟩
/-- Bytes that are nobody else's, and may be written. -/
structure FreB (w : World) (base : Nat) (A : Option Addr) (l : List UInt8) : Prop where
  bs : Bs w A l
  at_ : ∀ ad, A = some ad → l ≠ [] → ∃ g, ad = ⟨g, 0, none⟩ ∧ base ≤ g ∧ g < w.heap.size
  frz : ∀ ad, A = some ad → ∀ i, i < l.length → w.frozen? (ad.add i) = false
theorem FreB.own {w : World} {base : Nat} {T : TypeId} {A : Option Addr} {c : Nat} {l : List UInt8} (h : w.ownsRow base T 1 (.slice A l.length c) l.length (l.map bv)) : FreB w base A l := by
  refine ⟨own_rd h, fun ad ha _ => ?_, fun ad ha i _ => ?_⟩
  · have h1 := own_block h ad ha
    rcases own_at h with h2 | ⟨g, cur, h2, h3⟩
    · rw [h2] at ha; cases ha
    · rw [h2] at ha; cases ha; exact ⟨g, rfl, h1⟩
  · rcases own_at h with h2 | ⟨g, cur, h2, h3⟩
    · rw [h2] at ha; cases ha
    · rw [h2] at ha; cases ha
      rw [add0]
      exact Blk.frozen (t := T) h3 i
end Go.Proofs.Ytnfeibbnjdegfaa

/- bytes.Join of some lists, off the shelf. -/
namespace Go.Proofs.Ytnfeibbnjdegfaa
open Go Go.RowKit
set_option linter.unusedVariables false
set_option maxRecDepth 4000
def jRen : Go.Shelf.Ren := ⟨fun n => bif Nat.beq n 14 then 54 else 73, fun n => bif Nat.beq n 0 then 0 else bif Nat.beq n 3 then 3 else bif Nat.beq n 4 then 4 else bif Nat.beq n 5 then 5 else bif Nat.beq n 9 then 9 else bif Nat.beq n 20 then 20 else bif Nat.beq n 22 then 31 else 22, fun n => n⟩
theorem jLays : SlLaysJ.n14 Try.prog jRen where
  mixed := by kernel_rfl
  f14 := by kernel_rfl
  f15 := by kernel_rfl
  t0 := by kernel_rfl
  a0 := fun w => by kernel_rfl
  z0 := fun w => by kernel_rfl
  v0 := fun w => by kernel_rfl
  t3 := by kernel_rfl
  a3 := fun w => by kernel_rfl
  z3 := fun w => by kernel_rfl
  v3 := fun w => by kernel_rfl
  t4 := by kernel_rfl
  a4 := fun w => by kernel_rfl
  z4 := fun w => by kernel_rfl
  v4 := fun w => by kernel_rfl
  t9 := by kernel_rfl
  a9 := fun w => by kernel_rfl
  z9 := fun w => by kernel_rfl
  v9 := fun w => by kernel_rfl
  t20 := by kernel_rfl
  a20 := fun w => by kernel_rfl
  z20 := fun w => by kernel_rfl
  v20 := fun w => by kernel_rfl
  t22 := by kernel_rfl
  a22 := fun w => by kernel_rfl
  z22 := fun w => by kernel_rfl
  v22 := fun w => by kernel_rfl
  t26 := by kernel_rfl
  a26 := fun w => by kernel_rfl
  z26 := fun w => by kernel_rfl
  v26 := fun w => by kernel_rfl
  t5 := by kernel_rfl
  z5 := fun w => by kernel_rfl
  i5 := by kernel_rfl
theorem FreB.fresh {w' : World} {base : Nat} {v : Value} {l : List UInt8} (h : Lib.FreshBytes base w' v l) : ∃ A c, v = .slice A l.length c ∧ l.length ≤ c ∧ FreB w' base A l := by
  obtain ⟨g, cap, zs, hv, hb, hl, hm, hz, hr, ho, hc, hf⟩ := h
  have hcell : ∀ j (hj : j < l.length), w'.cell? ⟨g, j, none⟩ = some (bv l[j]) := fun j hj => by
    rw [hc j (by omega)]
    have hjz : j < zs.length := by omega
    have hx := hr zs[j] (List.getElem_mem hjz)
    have hlj : l[j] = UInt8.ofNat (zs[j]).toNat := by
      have := congrArg (fun l => l[j]?) ho
      simp only [Lib.bytesOf, List.getElem?_map, List.getElem?_take, if_pos hj, List.getElem?_eq_getElem hjz, List.getElem?_eq_getElem hj, Option.map_some, Option.some.injEq] at this
      exact this.symm
    rw [hlj, List.getD_eq_getElem?_getD, List.getElem?_eq_getElem hjz]
    show some (Value.int .u8 zs[j]) = some (Value.int .u8 _)
    rw [UInt8.toNat_ofNat']
    congr 2
    omega
  refine ⟨some ⟨g, 0, none⟩, cap, hv, hl, ⟨fun j u hu => ?_, fun ad ha hne => ?_, fun ad ha i hi => ?_⟩⟩
  · have hj : j < l.length := by have := (List.getElem?_eq_some_iff.1 hu).1; simpa using this
    refine ⟨_, rfl, ?_⟩
    rw [add0, hcell j hj, ← hu, List.getElem?_map, List.getElem?_eq_getElem hj]
    rfl
  · cases ha
    refine ⟨g, rfl, hb, ?_⟩
    exact World.block_lt_of_cell? w' ⟨g, 0, none⟩ (hcell 0 (List.length_pos_iff.2 hne))
  · cases ha
    rw [add0]
    exact hf i (by omega)
theorem join_flat : ∀ ls : List (List UInt8), Lib.join ls [] = ls.flatten
  | [] => rfl
  | x :: r => by
    rw [Lib.join_cons, List.flatten_cons]
    unfold Lib.joinTail
    congr 2
    simp
theorem lens_flat (ls : List (List UInt8)) : Lib.lens ls = ls.flatten.length := by unfold Lib.lens; rw [List.length_flatten]
theorem parts_of {w : World} {ad : Addr} {vs : List BV} (h : ArgL w (some ad) vs) : Lib.PartsAt w ad (vs.map sv) (vs.map pay) := by
  refine ⟨by simp, fun i v hv => ?_, fun i v l hv hl => ?_⟩
  · obtain ⟨ad', ha, hc⟩ := h.rd i v hv
    cases ha
    exact hc
  · rw [List.getElem?_map] at hv hl
    cases hvi : vs[i]? with
    | none => rw [hvi] at hv; cases hv
    | some x =>
      rw [hvi] at hv hl
      cases hv; cases hl
      have hx := (h.bs x (List.mem_of_getElem? hvi)).1
      refine ⟨x.1, x.2.1, rfl, fun hn => ?_, fun a ha j y hy => ?_⟩
      · by_cases hl : x.2.2 = []
        · exact hl
        · obtain ⟨a, ha, _⟩ := hx.at_ (j := 0) (List.length_pos_iff.2 hl)
          rw [hn] at ha; cases ha
      · obtain ⟨a', ha', hc⟩ := hx j (bv y) (by rw [List.getElem?_map, hy]; rfl)
        rw [ha] at ha'; cases ha'
        exact hc
/-- What Join tells. -/
def JoinP (w : World) (l : List UInt8) : Ending → World → Prop := fun en w' => ∃ A c, en = .returned (.slice A l.length c) ∧ l.length ≤ c ∧ FreB w' w.heap.size A l ∧ Ext w w'
theorem join_bytes (w : World) (b o n c : Nat) (vs : List BV) (h : ArgL w (some ⟨b, o, none⟩) vs) (hne : vs ≠ []) (hn : vs.length = n) (hc : n ≤ c) (hl : (vs.map pay).flatten.length ≤ 10000000) (hn2 : n ≤ 10000000) :
    Calls Try.prog 54 #[.slice (some ⟨b, o, none⟩) n c, .slice none 0 0] w (JoinP w (vs.map pay).flatten) := by
  subst hn
  have hP := parts_of h
  match vs, hne, h, hP with
  | [v], _, h, hP =>
    obtain ⟨ad, ha, hc0⟩ := h.cell (k := 0) (by simp)
    cases ha
    have hc0 : w.cell? ⟨b, o, none⟩ = some (.slice v.1 v.2.2.length v.2.1) := by simpa [Addr.add, sv] using hc0
    have hv := (h.bs v (by simp)).1
    have hf : ([v].map pay).flatten = v.2.2 := by simp
    rw [hf] at hl ⊢
    by_cases he : v.2.2 = []
    · rw [he] at hc0 ⊢
      refine (Any.bytes_Join_one_empty jLays b o c v.1 v.2.1 (.slice none 0 0) w hc0).mono ?_
      rintro en w' ⟨rfl, rfl⟩
      exact ⟨none, 0, rfl, Nat.le_refl _, ⟨Bs.nil _ _, fun ad h => (by cases h), fun ad h => (by cases h)⟩, Ext.rfl' _⟩
    · obtain ⟨a, ha, _⟩ := hv.at_ (j := 0) (List.length_pos_iff.2 he)
      rw [ha] at hc0 hv
      refine (Any.bytes_Join_one jLays b o c a v.2.1 v.2.2 (.slice none 0 0) w hc0 (fun i x hx => ?_) (List.length_pos_iff.2 he) (by omega)).mono ?_
      · obtain ⟨a', ha', hcc⟩ := hv i (bv x) (by rw [List.getElem?_map, hx]; rfl)
        cases ha'
        exact hcc
      · rintro en w' ⟨v', rfl, hf, hx⟩
        obtain ⟨A, c', rfl, h1, h2⟩ := FreB.fresh hf
        exact ⟨A, c', rfl, h1, h2, hx⟩
  | v :: u :: r, _, h, hP =>
    refine (Any.bytes_Join_many jLays b o (v :: u :: r).length c ((v :: u :: r).map sv) ((v :: u :: r).map pay) (.slice none 0 0) [] w (by simp) (by simp) hP hc ⟨none, 0, rfl, fun _ => rfl, fun a ha => by cases ha⟩ (by omega) ?_).mono ?_
    · rw [lens_flat]; simp only [List.length_nil, Nat.zero_mul]; omega
    · rintro en w' ⟨v', rfl, hf, hx⟩
      rw [join_flat] at hf
      obtain ⟨A, c', rfl, h1, h2⟩ := FreB.fresh hf
      exact ⟨A, c', rfl, h1, h2, hx⟩
end Go.Proofs.Ytnfeibbnjdegfaa
