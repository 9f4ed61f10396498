/- Walks: frames read one behind the other, the program's and the reference's. -/
import Derived.Test.YtdphahphbaebkaaFrm1
import Derived.Test.YtdphahphbaebkaaRange3
import Derived.Test.YtdphahphbaebkaaLists
import Derived.Test.YtdphahphbaebkaaShaI
import Derived.Test.YtdphahphbaebkaaSha4
namespace Go.Proofs.Ytdphahphbaebkaa
open Go Go.RowKit
set_option linter.unusedVariables false
set_option maxRecDepth 4000
theorem go_Frm2 {A B : Prop} (h : Held B → A := by
  intro hEnd
  repeat (first | refine OW_sliceP h_slp_Tag rfl ?_ | refine OW_addU64 rfl rfl (by omega) ?_ | refine OW_convIn und_u32 und_int rfl (by omega) ?_ | refine OW_convIn und_u64 und_int rfl (by omega) ?_ | refine OW_convU64 und_int und_u64 rfl (by omega) ?_ | refine OW_moveV (.int _ _) rfl ?_ | refine OW_moveV (.slice _ _ _) rfl ?_ | refine OW_moveV (.bool _) rfl ?_ | refine OW_moveV (.pointer _) rfl ?_ | refine OW_moveV (.string _) rfl ?_ | refine OW_moveV (.agg _) rfl ?_ | refine OW_moveV (.tuple _) rfl ?_ | refine OW_nil ?_ | refine thenE_normal ?_ | refine CW_seq ?_ | refine CW_region (by kernel_rfl) ?_ | refine OW_assignV (.int _ _) rfl ?_ | refine OW_assignV (.slice _ _ _) rfl ?_ | refine OW_assignV (.bool _) rfl ?_ | refine OW_assignV (.pointer _) rfl ?_ | refine OW_assignV (.string _) rfl ?_ | refine OW_assignV (.agg _) rfl ?_ | refine OW_assignV (.tuple _) rfl ?_ | refine OW_addI rfl rfl (by omega) ?_ | refine OW_subI rfl rfl (by omega) ?_ | refine OW_mulI rfl rfl (by omega) ?_ | refine OW_lss rfl rfl ?_ | refine OW_extract rfl rfl ?_ | refine OW_gtr rfl rfl ?_ | refine OW_leq rfl rfl ?_ | refine OW_geq rfl rfl ?_ | refine OW_eql rfl rfl ?_ | refine OW_neq rfl rfl ?_ | refine OW_not rfl ?_ | refine OW_pickT rfl _ rfl ?_ | refine OW_pickF rfl (.bool _) rfl ?_ | refine OW_pickB rfl rfl rfl ?_ | refine OW_move ?_ | refine OW_assign ?_ | refine OW_pass rfl ?_ | refine OW_take rfl ?_ | refine OW_lenS (by first | with_reducible exact und_bytes | with_reducible exact und_bytess) rfl ?_ | refine OW_convInt (by first | with_reducible exact und_u8 | with_reducible exact und_u64 | with_reducible exact und_int | with_reducible exact und_u32) (by first | with_reducible exact und_u8 | with_reducible exact und_u64 | with_reducible exact und_int | with_reducible exact und_u32) rfl ?_ | refine OW_add rfl rfl ?_ | refine OW_sub rfl rfl ?_ | refine OW_mul rfl rfl ?_ | refine OW_min2 rfl rfl ?_ | refine OW_max2 rfl rfl ?_ | refine OW_neg rfl ?_ | refine CW_block ?_ | refine CW_condT rfl ?_ | refine CW_condF rfl ?_ | refine CW_exit ?_ | refine CW_ret ?_ | refine CW_skip ?_ | refine LW_seq ?_ | refine LW_regC ?_ | refine LW_condC ?_ | refine LW_regF ?_ | refine LW_condF ?_ | refine FW_seq ?_ | refine FW_region (by kernel_rfl) ?_ | refine FW_block ?_ | refine FW_condT rfl ?_ | refine FW_condF rfl ?_ | refine FW_exit ?_ | refine FW_ret ?_ | refine FW_skip ?_ | refine LW_ret ?_ | refine LW_skip ?_ | refine thenE_exit ?_ | refine thenE_ret ?_ | refine inBlockE_normal ?_ | refine inBlockE_same ?_ | refine inBlockE_ret ?_ | refine inBlockE_ne (by rfl) ?_ | refine OW_eqlB (by with_reducible exact und_bool) rfl rfl ?_ | refine OW_neqB (by with_reducible exact und_bool) rfl rfl ?_ | refine OW_idxS (by with_reducible exact und_bytes) one_u8 rfl rfl _ rfl (by omega) ?_ | refine OW_idxS (by with_reducible exact und_bytess) one_bytes rfl rfl _ rfl (by omega) ?_ | refine OW_load1 (by first | with_reducible exact one_u8 | with_reducible exact one_bytes) rfl _ (by assumption) ?_)
  exact hEnd.out) (k : B) : A := h ⟨k⟩
theorem oy_Frm2 {A B : Prop} (h : Held B → A := by
  intro hEnd
  repeat (first
    | refine OY_done ?_
    | (apply OY_p _ rfl
       · intro wd
         (first | refine OW_sliceP h_slp_Tag rfl ?_ | refine OW_addU64 rfl rfl (by omega) ?_ | refine OW_convIn und_u32 und_int rfl (by omega) ?_ | refine OW_convIn und_u64 und_int rfl (by omega) ?_ | refine OW_convU64 und_int und_u64 rfl (by omega) ?_ | refine OW_moveV (.int _ _) rfl ?_ | refine OW_moveV (.slice _ _ _) rfl ?_ | refine OW_moveV (.bool _) rfl ?_ | refine OW_moveV (.pointer _) rfl ?_ | refine OW_moveV (.string _) rfl ?_ | refine OW_moveV (.agg _) rfl ?_ | refine OW_moveV (.tuple _) rfl ?_ | refine OW_nil ?_ | refine thenE_normal ?_ | refine CW_seq ?_ | refine CW_region (by kernel_rfl) ?_ | refine OW_assignV (.int _ _) rfl ?_ | refine OW_assignV (.slice _ _ _) rfl ?_ | refine OW_assignV (.bool _) rfl ?_ | refine OW_assignV (.pointer _) rfl ?_ | refine OW_assignV (.string _) rfl ?_ | refine OW_assignV (.agg _) rfl ?_ | refine OW_assignV (.tuple _) rfl ?_ | refine OW_addI rfl rfl (by omega) ?_ | refine OW_subI rfl rfl (by omega) ?_ | refine OW_mulI rfl rfl (by omega) ?_ | refine OW_lss rfl rfl ?_ | refine OW_extract rfl rfl ?_ | refine OW_gtr rfl rfl ?_ | refine OW_leq rfl rfl ?_ | refine OW_geq rfl rfl ?_ | refine OW_eql rfl rfl ?_ | refine OW_neq rfl rfl ?_ | refine OW_not rfl ?_ | refine OW_pickT rfl _ rfl ?_ | refine OW_pickF rfl (.bool _) rfl ?_ | refine OW_pickB rfl rfl rfl ?_ | refine OW_move ?_ | refine OW_assign ?_ | refine OW_pass rfl ?_ | refine OW_take rfl ?_ | refine OW_lenS (by first | with_reducible exact und_bytes | with_reducible exact und_bytess) rfl ?_ | refine OW_convInt (by first | with_reducible exact und_u8 | with_reducible exact und_u64 | with_reducible exact und_int | with_reducible exact und_u32) (by first | with_reducible exact und_u8 | with_reducible exact und_u64 | with_reducible exact und_int | with_reducible exact und_u32) rfl ?_ | refine OW_add rfl rfl ?_ | refine OW_sub rfl rfl ?_ | refine OW_mul rfl rfl ?_ | refine OW_min2 rfl rfl ?_ | refine OW_max2 rfl rfl ?_ | refine OW_neg rfl ?_ | refine CW_block ?_ | refine CW_condT rfl ?_ | refine CW_condF rfl ?_ | refine CW_exit ?_ | refine CW_ret ?_ | refine CW_skip ?_ | refine LW_seq ?_ | refine LW_regC ?_ | refine LW_condC ?_ | refine LW_regF ?_ | refine LW_condF ?_ | refine FW_seq ?_ | refine FW_region (by kernel_rfl) ?_ | refine FW_block ?_ | refine FW_condT rfl ?_ | refine FW_condF rfl ?_ | refine FW_exit ?_ | refine FW_ret ?_ | refine FW_skip ?_ | refine LW_ret ?_ | refine LW_skip ?_ | refine thenE_exit ?_ | refine thenE_ret ?_ | refine inBlockE_normal ?_ | refine inBlockE_same ?_ | refine inBlockE_ret ?_ | refine inBlockE_ne (by rfl) ?_ | refine OW_eqlB (by with_reducible exact und_bool) rfl rfl ?_ | refine OW_neqB (by with_reducible exact und_bool) rfl rfl ?_ | refine OW_idxS (by with_reducible exact und_bytes) one_u8 rfl rfl _ rfl (by omega) ?_ | refine OW_idxS (by with_reducible exact und_bytess) one_bytes rfl rfl _ rfl (by omega) ?_ | refine OW_load1 (by first | with_reducible exact one_u8 | with_reducible exact one_bytes) rfl _ (by assumption) ?_)
         refine OW_nil ?_
         exact stay_mk _ _ _ _)
    | (apply OY_q _ rfl
       · intro wd hwd
         (first | refine OW_sliceP h_slp_Tag rfl ?_ | refine OW_addU64 rfl rfl (by omega) ?_ | refine OW_convIn und_u32 und_int rfl (by omega) ?_ | refine OW_convIn und_u64 und_int rfl (by omega) ?_ | refine OW_convU64 und_int und_u64 rfl (by omega) ?_ | refine OW_moveV (.int _ _) rfl ?_ | refine OW_moveV (.slice _ _ _) rfl ?_ | refine OW_moveV (.bool _) rfl ?_ | refine OW_moveV (.pointer _) rfl ?_ | refine OW_moveV (.string _) rfl ?_ | refine OW_moveV (.agg _) rfl ?_ | refine OW_moveV (.tuple _) rfl ?_ | refine OW_nil ?_ | refine thenE_normal ?_ | refine CW_seq ?_ | refine CW_region (by kernel_rfl) ?_ | refine OW_assignV (.int _ _) rfl ?_ | refine OW_assignV (.slice _ _ _) rfl ?_ | refine OW_assignV (.bool _) rfl ?_ | refine OW_assignV (.pointer _) rfl ?_ | refine OW_assignV (.string _) rfl ?_ | refine OW_assignV (.agg _) rfl ?_ | refine OW_assignV (.tuple _) rfl ?_ | refine OW_addI rfl rfl (by omega) ?_ | refine OW_subI rfl rfl (by omega) ?_ | refine OW_mulI rfl rfl (by omega) ?_ | refine OW_lss rfl rfl ?_ | refine OW_extract rfl rfl ?_ | refine OW_gtr rfl rfl ?_ | refine OW_leq rfl rfl ?_ | refine OW_geq rfl rfl ?_ | refine OW_eql rfl rfl ?_ | refine OW_neq rfl rfl ?_ | refine OW_not rfl ?_ | refine OW_pickT rfl _ rfl ?_ | refine OW_pickF rfl (.bool _) rfl ?_ | refine OW_pickB rfl rfl rfl ?_ | refine OW_move ?_ | refine OW_assign ?_ | refine OW_pass rfl ?_ | refine OW_take rfl ?_ | refine OW_lenS (by first | with_reducible exact und_bytes | with_reducible exact und_bytess) rfl ?_ | refine OW_convInt (by first | with_reducible exact und_u8 | with_reducible exact und_u64 | with_reducible exact und_int | with_reducible exact und_u32) (by first | with_reducible exact und_u8 | with_reducible exact und_u64 | with_reducible exact und_int | with_reducible exact und_u32) rfl ?_ | refine OW_add rfl rfl ?_ | refine OW_sub rfl rfl ?_ | refine OW_mul rfl rfl ?_ | refine OW_min2 rfl rfl ?_ | refine OW_max2 rfl rfl ?_ | refine OW_neg rfl ?_ | refine CW_block ?_ | refine CW_condT rfl ?_ | refine CW_condF rfl ?_ | refine CW_exit ?_ | refine CW_ret ?_ | refine CW_skip ?_ | refine LW_seq ?_ | refine LW_regC ?_ | refine LW_condC ?_ | refine LW_regF ?_ | refine LW_condF ?_ | refine FW_seq ?_ | refine FW_region (by kernel_rfl) ?_ | refine FW_block ?_ | refine FW_condT rfl ?_ | refine FW_condF rfl ?_ | refine FW_exit ?_ | refine FW_ret ?_ | refine FW_skip ?_ | refine LW_ret ?_ | refine LW_skip ?_ | refine thenE_exit ?_ | refine thenE_ret ?_ | refine inBlockE_normal ?_ | refine inBlockE_same ?_ | refine inBlockE_ret ?_ | refine inBlockE_ne (by rfl) ?_ | refine OW_eqlB (by with_reducible exact und_bool) rfl rfl ?_ | refine OW_neqB (by with_reducible exact und_bool) rfl rfl ?_ | refine OW_idxS (by with_reducible exact und_bytes) one_u8 rfl rfl _ rfl (by omega) ?_ | refine OW_idxS (by with_reducible exact und_bytess) one_bytes rfl rfl _ rfl (by omega) ?_ | refine OW_load1 (by first | with_reducible exact one_u8 | with_reducible exact one_bytes) rfl _ (by assumption) ?_ | (refine OW_isLoad ?_; refine OW_loadBk (by first | with_reducible exact one_u8 | with_reducible exact one_bytes | with_reducible exact one_bool | with_reducible exact one_int | with_reducible exact one_errno | with_reducible exact one_u32 | with_reducible exact one_u64 | with_reducible exact one_string | with_reducible exact one_bytess | with_reducible exact s_int) rfl (by apply_assumption; assumption) _ (by first | assumption | rfl) ?_) | refine OW_load1 (by first | with_reducible exact one_u8 | with_reducible exact one_bytes | with_reducible exact one_bool | with_reducible exact one_int | with_reducible exact one_errno | with_reducible exact one_u32 | with_reducible exact one_u64 | with_reducible exact one_string | with_reducible exact one_bytess | with_reducible exact s_int) rfl _ (by apply_assumption; assumption) ?_)
         refine OW_nil ?_
         exact stay_mk _ _ _ _)
    | refine OY_ppass rfl rfl ?_
    | refine OY_qpass rfl rfl ?_
    | (apply OY_ptake _ rfl rfl
       · intro wd
         (first | refine OW_sliceP h_slp_Tag rfl ?_ | refine OW_addU64 rfl rfl (by omega) ?_ | refine OW_convIn und_u32 und_int rfl (by omega) ?_ | refine OW_convIn und_u64 und_int rfl (by omega) ?_ | refine OW_convU64 und_int und_u64 rfl (by omega) ?_ | refine OW_moveV (.int _ _) rfl ?_ | refine OW_moveV (.slice _ _ _) rfl ?_ | refine OW_moveV (.bool _) rfl ?_ | refine OW_moveV (.pointer _) rfl ?_ | refine OW_moveV (.string _) rfl ?_ | refine OW_moveV (.agg _) rfl ?_ | refine OW_moveV (.tuple _) rfl ?_ | refine OW_nil ?_ | refine thenE_normal ?_ | refine CW_seq ?_ | refine CW_region (by kernel_rfl) ?_ | refine OW_assignV (.int _ _) rfl ?_ | refine OW_assignV (.slice _ _ _) rfl ?_ | refine OW_assignV (.bool _) rfl ?_ | refine OW_assignV (.pointer _) rfl ?_ | refine OW_assignV (.string _) rfl ?_ | refine OW_assignV (.agg _) rfl ?_ | refine OW_assignV (.tuple _) rfl ?_ | refine OW_addI rfl rfl (by omega) ?_ | refine OW_subI rfl rfl (by omega) ?_ | refine OW_mulI rfl rfl (by omega) ?_ | refine OW_lss rfl rfl ?_ | refine OW_extract rfl rfl ?_ | refine OW_gtr rfl rfl ?_ | refine OW_leq rfl rfl ?_ | refine OW_geq rfl rfl ?_ | refine OW_eql rfl rfl ?_ | refine OW_neq rfl rfl ?_ | refine OW_not rfl ?_ | refine OW_pickT rfl _ rfl ?_ | refine OW_pickF rfl (.bool _) rfl ?_ | refine OW_pickB rfl rfl rfl ?_ | refine OW_move ?_ | refine OW_assign ?_ | refine OW_pass rfl ?_ | refine OW_take rfl ?_ | refine OW_lenS (by first | with_reducible exact und_bytes | with_reducible exact und_bytess) rfl ?_ | refine OW_convInt (by first | with_reducible exact und_u8 | with_reducible exact und_u64 | with_reducible exact und_int | with_reducible exact und_u32) (by first | with_reducible exact und_u8 | with_reducible exact und_u64 | with_reducible exact und_int | with_reducible exact und_u32) rfl ?_ | refine OW_add rfl rfl ?_ | refine OW_sub rfl rfl ?_ | refine OW_mul rfl rfl ?_ | refine OW_min2 rfl rfl ?_ | refine OW_max2 rfl rfl ?_ | refine OW_neg rfl ?_ | refine CW_block ?_ | refine CW_condT rfl ?_ | refine CW_condF rfl ?_ | refine CW_exit ?_ | refine CW_ret ?_ | refine CW_skip ?_ | refine LW_seq ?_ | refine LW_regC ?_ | refine LW_condC ?_ | refine LW_regF ?_ | refine LW_condF ?_ | refine FW_seq ?_ | refine FW_region (by kernel_rfl) ?_ | refine FW_block ?_ | refine FW_condT rfl ?_ | refine FW_condF rfl ?_ | refine FW_exit ?_ | refine FW_ret ?_ | refine FW_skip ?_ | refine LW_ret ?_ | refine LW_skip ?_ | refine thenE_exit ?_ | refine thenE_ret ?_ | refine inBlockE_normal ?_ | refine inBlockE_same ?_ | refine inBlockE_ret ?_ | refine inBlockE_ne (by rfl) ?_ | refine OW_eqlB (by with_reducible exact und_bool) rfl rfl ?_ | refine OW_neqB (by with_reducible exact und_bool) rfl rfl ?_ | refine OW_idxS (by with_reducible exact und_bytes) one_u8 rfl rfl _ rfl (by omega) ?_ | refine OW_idxS (by with_reducible exact und_bytess) one_bytes rfl rfl _ rfl (by omega) ?_ | refine OW_load1 (by first | with_reducible exact one_u8 | with_reducible exact one_bytes) rfl _ (by assumption) ?_)
         refine OW_nil ?_
         exact stay_mk _ _ _ _)
    | (apply OY_qtake _ rfl rfl
       · intro wd hwd
         (first | refine OW_sliceP h_slp_Tag rfl ?_ | refine OW_addU64 rfl rfl (by omega) ?_ | refine OW_convIn und_u32 und_int rfl (by omega) ?_ | refine OW_convIn und_u64 und_int rfl (by omega) ?_ | refine OW_convU64 und_int und_u64 rfl (by omega) ?_ | refine OW_moveV (.int _ _) rfl ?_ | refine OW_moveV (.slice _ _ _) rfl ?_ | refine OW_moveV (.bool _) rfl ?_ | refine OW_moveV (.pointer _) rfl ?_ | refine OW_moveV (.string _) rfl ?_ | refine OW_moveV (.agg _) rfl ?_ | refine OW_moveV (.tuple _) rfl ?_ | refine OW_nil ?_ | refine thenE_normal ?_ | refine CW_seq ?_ | refine CW_region (by kernel_rfl) ?_ | refine OW_assignV (.int _ _) rfl ?_ | refine OW_assignV (.slice _ _ _) rfl ?_ | refine OW_assignV (.bool _) rfl ?_ | refine OW_assignV (.pointer _) rfl ?_ | refine OW_assignV (.string _) rfl ?_ | refine OW_assignV (.agg _) rfl ?_ | refine OW_assignV (.tuple _) rfl ?_ | refine OW_addI rfl rfl (by omega) ?_ | refine OW_subI rfl rfl (by omega) ?_ | refine OW_mulI rfl rfl (by omega) ?_ | refine OW_lss rfl rfl ?_ | refine OW_extract rfl rfl ?_ | refine OW_gtr rfl rfl ?_ | refine OW_leq rfl rfl ?_ | refine OW_geq rfl rfl ?_ | refine OW_eql rfl rfl ?_ | refine OW_neq rfl rfl ?_ | refine OW_not rfl ?_ | refine OW_pickT rfl _ rfl ?_ | refine OW_pickF rfl (.bool _) rfl ?_ | refine OW_pickB rfl rfl rfl ?_ | refine OW_move ?_ | refine OW_assign ?_ | refine OW_pass rfl ?_ | refine OW_take rfl ?_ | refine OW_lenS (by first | with_reducible exact und_bytes | with_reducible exact und_bytess) rfl ?_ | refine OW_convInt (by first | with_reducible exact und_u8 | with_reducible exact und_u64 | with_reducible exact und_int | with_reducible exact und_u32) (by first | with_reducible exact und_u8 | with_reducible exact und_u64 | with_reducible exact und_int | with_reducible exact und_u32) rfl ?_ | refine OW_add rfl rfl ?_ | refine OW_sub rfl rfl ?_ | refine OW_mul rfl rfl ?_ | refine OW_min2 rfl rfl ?_ | refine OW_max2 rfl rfl ?_ | refine OW_neg rfl ?_ | refine CW_block ?_ | refine CW_condT rfl ?_ | refine CW_condF rfl ?_ | refine CW_exit ?_ | refine CW_ret ?_ | refine CW_skip ?_ | refine LW_seq ?_ | refine LW_regC ?_ | refine LW_condC ?_ | refine LW_regF ?_ | refine LW_condF ?_ | refine FW_seq ?_ | refine FW_region (by kernel_rfl) ?_ | refine FW_block ?_ | refine FW_condT rfl ?_ | refine FW_condF rfl ?_ | refine FW_exit ?_ | refine FW_ret ?_ | refine FW_skip ?_ | refine LW_ret ?_ | refine LW_skip ?_ | refine thenE_exit ?_ | refine thenE_ret ?_ | refine inBlockE_normal ?_ | refine inBlockE_same ?_ | refine inBlockE_ret ?_ | refine inBlockE_ne (by rfl) ?_ | refine OW_eqlB (by with_reducible exact und_bool) rfl rfl ?_ | refine OW_neqB (by with_reducible exact und_bool) rfl rfl ?_ | refine OW_idxS (by with_reducible exact und_bytes) one_u8 rfl rfl _ rfl (by omega) ?_ | refine OW_idxS (by with_reducible exact und_bytess) one_bytes rfl rfl _ rfl (by omega) ?_ | refine OW_load1 (by first | with_reducible exact one_u8 | with_reducible exact one_bytes) rfl _ (by assumption) ?_ | (refine OW_isLoad ?_; refine OW_loadBk (by first | with_reducible exact one_u8 | with_reducible exact one_bytes | with_reducible exact one_bool | with_reducible exact one_int | with_reducible exact one_errno | with_reducible exact one_u32 | with_reducible exact one_u64 | with_reducible exact one_string | with_reducible exact one_bytess | with_reducible exact s_int) rfl (by apply_assumption; assumption) _ (by first | assumption | rfl) ?_) | refine OW_load1 (by first | with_reducible exact one_u8 | with_reducible exact one_bytes | with_reducible exact one_bool | with_reducible exact one_int | with_reducible exact one_errno | with_reducible exact one_u32 | with_reducible exact one_u64 | with_reducible exact one_string | with_reducible exact one_bytess | with_reducible exact s_int) rfl _ (by apply_assumption; assumption) ?_)
         refine OW_nil ?_
         exact stay_mk _ _ _ _)
    | refine OY_a (actY_of rfl ?_)
    | refine OY_d (actY_of rfl ?_)
    | refine OY_a (actY_pass rfl rfl ?_)
    | refine OY_d (actY_pass rfl rfl ?_)
    | refine OY_a (actY_take rfl rfl ?_)
    | refine OY_d (actY_take rfl rfl ?_))
  exact hEnd.out) (k : B) : A := h ⟨k⟩
set_option maxHeartbeats 8000000 in
theorem refNext_any (w : World) (A : Option Addr) (c : Nat) (b : List UInt8) (hb : Bs w A b) (hc : b.length ≤ c) (hl : b.length ≤ 100000) :
    Calls Try.prog 14 #[.slice A b.length c] w (NextP w b) := by
  have hT := refLoad_any w A b c 0 4 4 rfl (by decide) hb (by omega) (by decide)
  have hlt := loadL4_lt b
  have hno : ¬ (4 ≤ b.length ∧ loadL (b.take 4) ≤ 65536 ∧ loadL (b.take 4) + 12 ≤ b.length ∧ sealB (b.take (4 + loadL (b.take 4))) = b.take (loadL (b.take 4) + 12)) → nextL b = none := fun h => by unfold nextL; rw [if_neg h]
  have hyes : (4 ≤ b.length ∧ loadL (b.take 4) ≤ 65536 ∧ loadL (b.take 4) + 12 ≤ b.length ∧ sealB (b.take (4 + loadL (b.take 4))) = b.take (loadL (b.take 4) + 12)) → nextL b = some ((b.drop 4).take (loadL (b.take 4))) := fun h => by unfold nextL; rw [if_pos h]
  refine calls_of_CW Try.func14 rfl (by simp [Try.ntmps14]) ?_
  rw [Try.ntmps14]
  refine go_Frm2 (k := ?_)
  refine OW_callV Try.func30 (by kernel_rfl) rfl hT rfl ?_
  intro w1 hx1
  by_cases h4 : 4 ≤ b.length
  rotate_left 1
  · rw [(ld4no h4).1, (ld4no h4).2]
    refine go_Frm2 (k := ?_)
    exact bodyE_ret3 rfl (.slice none 0 0) (.int .i64 0) (.int .i64 50) rfl rfl rfl (.inl ⟨hno (fun h => h4 h.1), rfl, hx1⟩)
  rw [(ld4 h4).1, (ld4 h4).2]
  obtain ⟨n, hn⟩ : ∃ n, loadL (b.take 4) = n := ⟨_, rfl⟩
  have hfr : n ≤ 65536 → n + 12 ≤ b.length → frameB ((b.drop 4).take n) = sealB (b.take (4 + n)) := fun h1 h2 => by
    unfold frameB
    rw [show ((b.drop 4).take n).length = n by rw [List.length_take, List.length_drop]; omega, ← hn, putL_loadL 4 (b.take 4) (by rw [List.length_take]; omega), List.take_add]
  rw [hn] at hno hyes hlt ⊢
  by_cases h5 : n ≤ 65536
  rotate_left 1
  · refine go_Frm2 (k := ?_)
    rw [decide_eq_true (show (65536 : Int) < n by omega)]
    refine go_Frm2 (k := ?_)
    exact bodyE_ret3 rfl (.slice none 0 0) (.int .i64 0) (.int .i64 50) rfl rfl rfl (.inl ⟨hno (fun h => h5 h.2.1), rfl, hx1⟩)
  by_cases h6 : n + 12 ≤ b.length
  rotate_left 1
  · refine go_Frm2 (k := ?_)
    rw [decide_eq_false (show ¬ (65536 : Int) < n by omega)]
    refine go_Frm2 (k := ?_)
    rw [decide_eq_true (show (b.length : Int) < n + 12 by omega)]
    refine go_Frm2 (k := ?_)
    exact bodyE_ret3 rfl (.slice none 0 0) (.int .i64 0) (.int .i64 50) rfl rfl rfl (.inl ⟨hno (fun h => h6 h.2.2.1), rfl, hx1⟩)
  refine go_Frm2 (k := ?_)
  rw [decide_eq_false (show ¬ (65536 : Int) < n by omega)]
  refine go_Frm2 (k := ?_)
  rw [decide_eq_false (show ¬ (b.length : Int) < n + 12 by omega)]
  refine go_Frm2 (k := ?_)
  refine OW_sliceBs und_bytes one_u8 (hb.ext hx1) rfl hc rfl ⟨_, rfl⟩ ⟨_, rfl⟩ 4 (4 + n) rfl (by omega) (by omega) ?_
  intro A2 hb2 hl2
  rw [show 4 + n - 4 = n by omega] at hb2 hl2 ⊢
  replace hfr := hfr h5 h6
  obtain ⟨p, hp⟩ : ∃ p, (b.drop 4).take n = p := ⟨_, rfl⟩
  rw [hp] at hb2 hl2 hyes hfr
  clear hp
  subst hl2
  refine go_Frm2 (k := ?_)
  refine OW_callBs Try.func9 (by kernel_rfl) rfl (refCopy_any w1 A2 p (c - 4) hb2 (by omega)) rfl ?_
  intro w2 X cX hX
  have hx02 := hx1.trans' hX.ext
  have hA0 : cutA A c 0 = A := by unfold cutA; split; rfl; cases A <;> rfl
  have hcut : Bs w (cutA A c 0) (b.take (p.length + 12)) := hb.cut c 0 (p.length + 12) (by omega)
  rw [hA0] at hcut
  have hl12 : (b.take (p.length + 12)).length = p.length + 12 := by rw [List.length_take]; omega
  have hfl := frameB_length p
  refine go_Frm2 (k := ?_)
  obtain ⟨C, hC⟩ : ∃ C : World → Prop, C = fun v => Ext w2 v := ⟨_, rfl⟩
  refine CW_tree2 [] (.p 0 (.p 2 (.p 3 (.p 4 (.p 5 (.d 1 (.d 6 (.p 7 .done)))))))) (C) (by kernel_rfl) (by kernel_rfl) (by kernel_rfl) ?_ ?_
  · exact inE hC
  intro w3 hx3 h_C
  refine oy_Frm2 (k := ?_)
  apply OY_p _ rfl
  · intro wd
    refine OW_slice (lv := 0) (hv := ((p.length + 12 : Nat) : Int)) (mv := c) und_bytes one_u8 rfl rfl ⟨_, by rw [show ((p.length + 12 : Nat) : Int) = (p.length : Int) + 12 by omega]; rfl⟩ rfl (fun h => by cases h) (by omega) ?_
    refine OW_nil ?_
    exact stay_mk _ _ _ _
  rw [Int.toNat_natCast, Int.toNat_natCast, Int.toNat_zero, hA0, Nat.sub_zero, Nat.sub_zero]
  refine oy_Frm2 (k := ?_)
  refine OW_callBs Try.func10 (by kernel_rfl) rfl (refSeal_any w3 X cX p (hX.bs.ext hx3) (by omega)) rfl ?_
  intro w4 A4 c4 hf4
  first | refine OW_nil (goY_mkE hC (hx3.trans' hf4.ext) ?_) | refine OW_nil (goY_dropE hC (hx3.trans' hf4.ext) ?_)
  refine oy_Frm2 (k := ?_)
  have hsm := refSame_any w4 A4 A (frameB p) (b.take (p.length + 12)) c4 c hf4.bs (hcut.ext ((hx02.trans' hx3).trans' hf4.ext)) (by omega)
  rw [hl12] at hsm
  refine OW_callV Try.func12 (by kernel_rfl) rfl hsm rfl ?_
  intro w5 hx5
  have hx05 := ((hx02.trans' hx3).trans' hf4.ext).trans' hx5
  by_cases h7 : frameB p = b.take (p.length + 12)
  rotate_left 1
  · rw [beq_eq_false_iff_ne.2 h7]
    first | refine OW_nil (goY_mkE hC ((hx3.trans' hf4.ext).trans' hx5) ?_) | refine OW_nil (goY_dropE hC ((hx3.trans' hf4.ext).trans' hx5) ?_)
    refine oy_Frm2 (k := ?_)
    refine go_Frm2 (k := ?_)
    exact bodyE_ret3 rfl (.slice none 0 0) (.int .i64 0) (.int .i64 50) rfl rfl rfl (.inl ⟨hno (fun h => h7 (by rw [hfr]; exact h.2.2.2)), rfl, hx05⟩)
  rw [beq_iff_eq.2 h7]
  first | refine OW_nil (goY_mkE hC ((hx3.trans' hf4.ext).trans' hx5) ?_) | refine OW_nil (goY_dropE hC ((hx3.trans' hf4.ext).trans' hx5) ?_)
  refine oy_Frm2 (k := ?_)
  have hnx := hyes ⟨h4, h5, h6, by rw [← hfr]; exact h7⟩
  refine go_Frm2 (k := ?_)
  exact bodyE_ret3 rfl (.slice X p.length cX) (.int .i64 ((p.length : Int) + 12)) (.int .i64 0) rfl rfl rfl (.inr ⟨p, X, cX, hnx, rfl, own_mono (own_ext hX.own ((hx3.trans' hf4.ext).trans' hx5)) hx1.size, hx05⟩)
/-- What All tells. -/
def AllP (w : World) (b : List UInt8) : Ending → World → Prop := fun en w' => ∃ A c vs, en = .returned (.tuple #[.slice A vs.length c, .int .i64 (framesB (vs.map pay)).length]) ∧ IsAll b (vs.map pay) ∧ RowsB w' w.heap.size A c vs ∧ Ext w w'
theorem framesB_le {b : List UInt8} {vs : List BV} {p : List UInt8} (h1 : (framesB (vs.map pay)).length ≤ b.length) (h2 : b.take (framesB (vs.map pay)).length = framesB (vs.map pay)) (h3 : ∀ q ∈ vs.map pay, q.length ≤ 65536) (v : BV) (hv : pay v = p) (h : nextL (b.drop (framesB (vs.map pay)).length) = some p) :
    (framesB ((vs ++ [v]).map pay)).length ≤ b.length ∧ b.take (framesB ((vs ++ [v]).map pay)).length = framesB ((vs ++ [v]).map pay) ∧ (∀ q ∈ (vs ++ [v]).map pay, q.length ≤ 65536) ∧ (framesB ((vs ++ [v]).map pay)).length = (framesB (vs.map pay)).length + p.length + 12 := by
  obtain ⟨a1, a2, a3⟩ := drop_nextL h1 h2 h
  have e : (vs ++ [v]).map pay = vs.map pay ++ [p] := by simp [hv]
  rw [e]
  refine ⟨a1, a2, fun q hq => ?_, by rw [framesB_snoc, List.length_append, frameB_length]; omega⟩
  rcases List.mem_append.1 hq with h | h
  · exact h3 q h
  · rw [List.mem_singleton.1 h]; exact a3
set_option maxHeartbeats 8000000 in
theorem refAll_any (w : World) (A : Option Addr) (c : Nat) (b : List UInt8) (hb : Bs w A b) (hc : b.length ≤ c) (hl : b.length ≤ 100000) :
    Calls Try.prog 15 #[.slice A b.length c] w (AllP w b) := by
  have hnc : ∀ vs : List BV, 12 * vs.length ≤ (framesB (vs.map pay)).length := by
    intro vs
    induction vs with
    | nil => simp [framesB]
    | cons v vs ih => rw [List.map_cons, framesB_cons, List.length_append, frameB_length, List.length_cons]; omega
  refine calls_of_CW Try.func15 rfl (by simp [Try.ntmps15]) ?_
  rw [Try.ntmps15]
  refine go_Frm2 (k := ?_)
  refine CW_loop (fun e' w' => ∃ (vs : List BV) (A2 : Option Addr) (c2 : Nat), e' 0 = .slice A b.length c ∧ e' 4 = .slice A2 vs.length c2 ∧ e' 5 = .int .i64 (framesB (vs.map pay)).length ∧ (framesB (vs.map pay)).length ≤ b.length ∧ b.take (framesB (vs.map pay)).length = framesB (vs.map pay) ∧ (∀ q ∈ vs.map pay, q.length ≤ 65536) ∧ RowsB w' w.heap.size A2 c2 vs ∧ Ext w w') (fun e' _ => b.length - (intOf (e' 5)).toNat) ?_ ?_
  · exact ⟨[], none, 0, rfl, rfl, rfl, by simp [framesB], by simp [framesB], by simp, RowsB.nil _ _, Ext.rfl' _⟩
  rintro e1 w1 ⟨vs, A2, c2, q0, q4, q5, h1, h2, h3, hR, hx⟩
  rw [upd_self q0, upd_self q4, upd_self q5]
  have hcnt := hnc vs
  obtain ⟨at_, hat⟩ : ∃ a, (framesB (vs.map pay)).length = a := ⟨_, rfl⟩
  have hstep := fun v p (hv : pay v = p) => framesB_le (b := b) h1 h2 h3 v hv
  rw [hat] at hstep h1 hcnt ⊢
  refine go_Frm2 (k := ?_)
  refine OW_sliceBs und_bytes one_u8 (hb.ext hx) rfl hc rfl ⟨_, rfl⟩ rfl at_ b.length rfl rfl (by omega) ?_
  intro A3 hb3 hl3
  have hd : (b.drop at_).take (b.length - at_) = b.drop at_ := List.take_of_length_le (by rw [List.length_drop]; exact Nat.le_refl _)
  rw [hd] at hb3 hl3
  rw [← hl3]
  refine go_Frm2 (k := ?_)
  refine OW_callC Try.func14 (by kernel_rfl) rfl (refNext_any w1 A3 (c - at_) (b.drop at_) hb3 (by omega) (by omega)) rfl ?_
  rintro en w2 (⟨hn, rfl, hx2⟩ | ⟨p, A4, c4, hn, rfl, hf4⟩)
  · refine ⟨_, rfl, ?_⟩
    refine go_Frm2 (k := ?_)
    exact bodyE_ret2 rfl (.slice A2 vs.length c2) (.int .i64 at_) rfl rfl ⟨A2, c2, vs, by rw [hat], ⟨by rw [hat]; exact h1, h2, by rw [hat]; exact hn, h3⟩, hR.ext hx2, hx.trans' hx2⟩
  · refine ⟨_, rfl, ?_⟩
    obtain ⟨k1, k2, k3, k4⟩ := hstep (A4, c4, p) p rfl hn
    have hx2 := hf4.ext
    refine go_Frm2 (k := ?_)
    refine OW_lit [sv (A4, c4, p)] und_bytess info_bytes rfl rfl (by simp [sv, Value.oneCell']) (by decide) ?_
    intro w3 g3 hb3' hg3 hx3
    have hR3 := (hR.ext hx2).ext hx3
    refine go_Frm2 (k := ?_)
    refine OW_appendK und_bytess info_bytes rfl rfl rfl hR3.row (by simpa using hb3'.rd) rfl (by simp [sv, Value.oneCell']) (by unfold maxLen; omega) (by omega) (by have := hx.size; have := hx2.size; have := hx3.size; omega) ?_
    intro w4 A5 c5 ho5 hg5 hw5
    have hown : bvOwn w3 w.heap.size (A4, c4, p) := own_mono (own_ext hf4.own hx3) hx.size
    have hap : ∀ u ∈ vs, Apart u (A4, c4, p) := fun u hu k hk hk2 => by
      have h5 := (hR.each u hu).lt hk
      obtain ⟨ad, ha, rfl⟩ := hk2
      have h6 := own_block hf4.own ad ha
      omega
    have hR4 := hR3.add hown hap hg5 ho5
    refine go_Frm2 (k := ?_)
    refine ⟨⟨vs ++ [(A4, c4, p)], A5, c5, rfl, by rw [List.length_append]; rfl, by rw [k4]; simp only [Int.natCast_add]; rw [Int.add_assoc]; rfl, k1, k2, k3, hR4, ?_⟩, ?_⟩
    · exact (Keeps.of_grown (S := fun k => w.heap.size ≤ k) hg5 (fun k hk => (hR3.row.lt k hk).1)).ext ((hx.trans' hx2).trans' hx3) (fun k hk => hk)
    · show b.length - ((at_ : Int) + ((p.length : Int) + 12)).toNat < b.length - (at_ : Int).toNat
      rw [k4] at k1
      omega
/-- What the iterator hands on: where the frame ends, its payload. -/
abbrev FV := Nat × BV
def okF (b : List UInt8) (B0 : Nat) (S : Nat → Prop) (pre : List FV) (x : FV) (w : World) : Prop :=
  bvOwn w B0 x.2 ∧ nextL (b.drop (framesB ((pre.map Prod.snd).map pay)).length) = some (pay x.2) ∧ x.1 = (framesB (((pre ++ [x]).map Prod.snd).map pay)).length ∧ ∀ k, bvB x.2 k → ¬ S k
set_option maxHeartbeats 8000000 in
theorem frames_any (w : World) (A : Option Addr) (n c : Nat) :
    Calls Try.prog 31 #[.slice A n c] w (fun en w' => ∃ g, en = .returned (.func (.func 40) #[] #[.pointer (some ⟨g, 0, none⟩)]) ∧ Blk w' g 22 #[.slice A n c] ∧ w.heap.size ≤ g ∧ Ext w w') := by
  refine calls_of_CW Try.func31 rfl (by simp [Try.ntmps31]) ?_
  rw [Try.ntmps31]
  refine go_Frm2 (k := ?_)
  refine OW_box _ rfl ?_
  intro w1 g hb hg hl hx
  refine go_Frm2 (k := ?_)
  refine OW_mkFunc [.pointer (some ⟨g, 0, none⟩)] rfl ?_
  refine go_Frm2 (k := ?_)
  exact bodyE_ret1 rfl _ rfl ⟨g, rfl, hb, hg, hx⟩
theorem bvOwn.noloop {w w' : World} {base : Nat} {v : BV} {D : Nat} {st : Loop} (h : bvOwn w base v) (hl : w.heap[D]? = some (.loop st)) (hk : Keeps w w' (· = D)) : bvOwn w' base v :=
  h.keeps hk (fun k ⟨ad, ha, hb⟩ hD => by
    rcases own_at h with h1 | ⟨g, cur, h1, h2⟩
    · rw [h1] at ha; cases ha
    · rw [h1] at ha
      cases ha
      simp only at hb
      rw [hb, hD, hl] at h2
      cases h2)
def uF (gB : Nat) (A : Option Addr) (n : Nat) (k : Nat) : Prop := k = gB ∨ (0 < n ∧ ∃ ad, A = some ad ∧ ad.block = k)
def preF (b : List UInt8) (B0 gB : Nat) (A : Option Addr) (c : Nat) (W : World) : Prop := B0 ≤ W.heap.size ∧ Blk W gB 22 #[.slice A b.length c] ∧ Bs W A b
set_option maxHeartbeats 4000000 in
theorem frames_iter (b : List UInt8) (B0 gB : Nat) (A : Option Addr) (c : Nat) (hc : b.length ≤ c) (hl : b.length ≤ 100000) :
    Iter3 Try.prog 40 [.pointer (some ⟨gB, 0, none⟩)] (fun x : FV => [.int .i64 x.1, sv x.2]) (okF b B0) (fun x => bvB x.2) (uF gB A b.length) (preF b B0 gB A c) (fun xs => IsAll b ((xs.map Prod.snd).map pay)) (fun _ => True) where
  ok := fun S pre x W W' D st ⟨h1, h2, h3, h4⟩ hl hk => ⟨h1.noloop hl hk, h2, h3, h4⟩
  okS := fun S S' pre x W hs ⟨h1, h2, h3, h4⟩ => ⟨h1, h2, h3, fun k hk hS => h4 k hk (hs k hS)⟩
  okG := fun S pre x W k ⟨h1, h2, h3, h4⟩ hk => ⟨(h1.lt hk).2, by
    obtain ⟨ad, ha, hb⟩ := hk
    rcases own_at h1 with h5 | ⟨g, cur, h5, h6⟩
    · rw [h5] at ha; cases ha
    · rw [h5] at ha
      cases ha
      simp only at hb
      subst hb
      exact ⟨_, _, _, h6⟩⟩
  run := by
    intro l J Jx S0 W hP hU hJb hJ hJx hy hJ0
    obtain ⟨hBs, hB0, hb0⟩ := hP
    refine calls_of_LW Try.func40 rfl (by simp [Try.ntmps40]) ?_
    refine go_Frm2 (k := ?_)
    refine LW_codeF (FW_block ?_)
    refine FW_loop (fun e w => ∃ (S : Nat → Prop) (xs : List FV), e 0 = .func (.yield l) #[] #[] ∧ e 1 = .pointer (some ⟨gB, 0, none⟩) ∧ B0 ≤ w.heap.size ∧ e 3 = .int .i64 (framesB ((xs.map Prod.snd).map pay)).length ∧ Blk w gB 22 #[.slice A b.length c] ∧ Bs w A b ∧ (∀ k, uF gB A b.length k → ¬ S k) ∧
      (framesB ((xs.map Prod.snd).map pay)).length ≤ b.length ∧ b.take (framesB ((xs.map Prod.snd).map pay)).length = framesB ((xs.map Prod.snd).map pay) ∧ (∀ q ∈ (xs.map Prod.snd).map pay, q.length ≤ 65536) ∧ J S xs w) (fun e _ => b.length - (intOf (e 3)).toNat) ?_ ?_
    · exact ⟨S0, [], rfl, rfl, hBs, rfl, hB0, hb0, hU, by simp [framesB], by simp [framesB], by simp, hJ0⟩
    rintro e w ⟨S, xs, e0, e1, hBs2, e3, hB, hb, hUS, h1, h2, h3, hj⟩
    rw [upd_self e0, upd_self e1, upd_self e3]
    have hstep := fun v p (hv : pay v = p) => framesB_le (b := b) h1 h2 h3 v hv
    obtain ⟨at_, hat⟩ : ∃ a, (framesB ((xs.map Prod.snd).map pay)).length = a := ⟨_, rfl⟩
    rw [hat] at hstep h1 ⊢
    refine FW_block (FW_seq (FW_hide (fun K hK => ?_)))
    refine FW_region (by kernel_rfl) ?_
    refine OW_isLoad ?_
    refine OW_loadBk one_bytes rfl hB (.slice A b.length c) rfl ?_
    refine go_Frm2 (k := ?_)
    refine OW_sliceBs und_bytes one_u8 hb rfl hc rfl ⟨_, rfl⟩ rfl at_ b.length rfl rfl (by omega) ?_
    intro A3 hb3 hl3
    have hd : (b.drop at_).take (b.length - at_) = b.drop at_ := List.take_of_length_le (by rw [List.length_drop]; exact Nat.le_refl _)
    rw [hd] at hb3 hl3
    rw [← hl3]
    refine go_Frm2 (k := ?_)
    refine OW_callC Try.func13 (by kernel_rfl) rfl (frameNext_any w A3 (c - at_) (b.drop at_) hb3 (by omega) (by omega)) rfl ?_
    rintro en w2 (⟨hn, rfl, hx2⟩ | ⟨p, A4, c4, hn, rfl, hf4⟩)
    · refine ⟨_, rfl, ?_⟩
      refine go_Frm2 (k := ?_)
      rw [hK]
      refine FW_seq (FW_hide (fun K2 hK2 => ?_))
      refine go_Frm2 (k := ?_)
      rw [hK2]
      refine FW_seq ?_
      refine FW_regionF (by kernel_rfl) ?_
      refine OWF_take 9 ?_
      simp only [List.take_succ_cons, List.take_zero, List.drop_succ_cons, List.drop_zero]
      refine go_Frm2 (k := ?_)
      refine OWF_nil ?_
      refine go_Frm2 (k := ?_)
      exact leave_of (bodyE_ret0 rfl ⟨_, rfl, S, .inl ⟨xs, ⟨by rw [hat]; exact h1, h2, by rw [hat]; exact hn, h3⟩, hJ S xs _ _ hj hx2⟩⟩)
    · refine ⟨_, rfl, ?_⟩
      have hx2 := hf4.ext
      obtain ⟨k1, k2, k3, k4⟩ := hstep (A4, c4, p) p rfl hn
      have hj2 := hJ S xs _ _ hj hx2
      have hok : okF b B0 S xs (at_ + (p.length + 12), (A4, c4, p)) w2 := ⟨own_mono hf4.own hBs2, by rw [hat]; exact hn, by
          rw [List.map_append]
          show at_ + (p.length + 12) = (framesB (((xs.map Prod.snd) ++ [(A4, c4, p)]).map pay)).length
          rw [k4]; omega, fun k hk hS => by
          have h8 := hJb S xs _ hj k hS
          obtain ⟨ad, ha, rfl⟩ := hk
          have h9 := own_block hf4.own ad ha
          omega⟩
      refine go_Frm2 (k := ?_)
      rw [hK]
      refine FW_seq (FW_hide (fun K2 hK2 => ?_))
      refine go_Frm2 (k := ?_)
      rw [hK2]
      refine FW_seq ?_
      refine FW_regionF (by kernel_rfl) ?_
      refine OWF_take 6 ?_
      simp only [List.take_succ_cons, List.take_zero, List.drop_succ_cons, List.drop_zero]
      refine go_Frm2 (k := ?_)
      rw [show (at_ : Int) + ((p.length : Int) + 12) = ((at_ + (p.length + 12) : Nat) : Int) by omega]
      refine OWF_yield (args' := [.int .i64 ((at_ + (p.length + 12) : Nat) : Int), sv (A4, c4, p)]) rfl rfl rfl ((hy S xs (at_ + (p.length + 12), (A4, c4, p)) w2 hj2 hok).mono ?_)
      rintro en w3 ⟨hk3, S', hS', ⟨rfl, hj3⟩ | ⟨rfl, hj3⟩⟩
      · refine ⟨_, rfl, ?_⟩
        refine OWF_take 2 ?_
        simp only [List.take_succ_cons, List.take_zero, List.drop_succ_cons, List.drop_zero]
        refine go_Frm2 (k := ?_)
        refine OWF_nil ?_
        refine go_Frm2 (k := ?_)
        have hu2 : ∀ k, uF gB A b.length k → k < w.heap.size := fun k hk => by
          rcases hk with hk | ⟨hn0, ad, ha, hb2⟩
          · rw [hk]; exact hB.lt
          · rw [← hb2]; exact Rd.lt hb (by intro h; rw [List.map_eq_nil_iff] at h; rw [h] at hn0; exact absurd hn0 (by decide)) ad ha
        have hG : ∀ k, bvB (A4, c4, p) k → w.heap.size ≤ k := fun k ⟨ad, ha, hb2⟩ => by rw [← hb2]; exact (own_block hf4.own ad ha).1
        have hun : ∀ k, uF gB A b.length k → ¬ (S k ∨ bvB (A4, c4, p) k) := fun k hk hh => by
          rcases hh with hh | hh
          · exact hUS k hk hh
          · have := hG k hh; have := hu2 k hk; omega
        have hxs := hx2.size
        refine ⟨⟨S', xs ++ [(at_ + (p.length + 12), (A4, c4, p))], rfl, rfl, by have := hk3.size; omega, ?_, (hB.ext hx2).keeps hk3 (hun gB (.inl rfl)), ?_, fun k hk hS => ?_, ?_, ?_, ?_, hj3⟩, ?_⟩
        · rw [List.map_append]
          show Value.int .i64 _ = Value.int .i64 (framesB (((xs.map Prod.snd) ++ [(A4, c4, p)]).map pay)).length
          rw [k4]
          congr 2
        · by_cases h0 : 0 < b.length
          · exact (hb.ext hx2).keeps hk3 (fun ad ha => hun _ (.inr ⟨h0, ad, ha, rfl⟩))
          · have : b = [] := List.eq_nil_of_length_eq_zero (by omega)
            rw [this]; exact Bs.nil _ _
        · rcases hS' k hS with h | h | h
          · exact hUS k hk h
          · have := hu2 k hk; omega
          · have := hG k h; have := hu2 k hk; omega
        · rw [List.map_append]; exact k1
        · rw [List.map_append]; exact k2
        · rw [List.map_append]; exact k3
        · show b.length - ((at_ + (p.length + 12) : Nat) : Int).toNat < b.length - (at_ : Int).toNat
          rw [k4] at k1
          omega
      · refine ⟨_, rfl, ?_⟩
        refine OWF_take 2 ?_
        simp only [List.take_succ_cons, List.take_zero, List.drop_succ_cons, List.drop_zero]
        refine go_Frm2 (k := ?_)
        refine OWF_nil ?_
        refine go_Frm2 (k := ?_)
        exact leave_of (bodyE_ret0 rfl ⟨_, rfl, S', .inr ⟨_, trivial, hj3⟩⟩)
theorem run_loadOne {P : Program} {t : TypeId} {ad : Addr} {w : World} (ht : OneT P t) {v : Value} (hc : w.cell? ad = some v) : (loadVar t ad).run P w = .ok v w := by
  simp [loadVar, Sem.run_bind, ht.agg w, load, Sem.run, hc]
theorem bodyE_ret1c1c {P : Program} {fn : Func} {R : Ending → World → Prop} {e : Nat → Value} {w : World} {t u : Tmp} {ty ty' : TypeId} {a b : Addr} (hr : fn.results = #[.cell t ty, .cell u ty']) (ht : OneT P ty) (hu : OneT P ty') (hv : e t = .pointer (some a)) (hv' : e u = .pointer (some b)) {v v' : Value} (hc : w.cell? a = some v) (hc' : w.cell? b = some v')
    (hR : R (.returned (.tuple #[v, v'])) w) : bodyE P fn R .ret e w := by
  unfold bodyE
  refine ⟨.tuple #[v, v'], fun tmps htm => ?_, hR⟩
  have h1 := run_loadOne (w := w) ht hc
  have h2 := run_loadOne (w := w) hu hc'
  simp [results, hr, htm, hv, hv', asAddr, h1, h2]
theorem own_block_or {A A5 : Option Addr} {n c m c5 : Nat} {g : Nat} (h : Value.ownBlock (.slice A5 m c5) = Value.ownBlock (.slice A n c) ∨ Value.ownBlock (.slice A5 m c5) = some g) {ad : Addr} (ha : A5 = some ad) : (∃ ad2, A = some ad2 ∧ ad2.block = ad.block) ∨ ad.block = g := by
  subst ha
  rcases h with h | h
  · cases A with
    | none => cases h
    | some ad2 => exact .inl ⟨ad2, rfl, by injection h with h; exact h.symm⟩
  · injection h with h; exact .inr h
/-- What a loop over frames keeps, that gathers the payloads in a cell. -/
structure Gath (w0 : Nat) (wx : World) (g2 : Nat) (S : Nat → Prop) (vs : List BV) (W : World) (A2 : Option Addr) (c2 : Nat) : Prop where
  cell : Blk W g2 34 #[.slice A2 vs.length c2]
  rows : RowsB W w0 A2 c2 vs
  in2 : S g2
  inA : ∀ ad, A2 = some ad → S ad.block
  inV : ∀ v ∈ vs, ∀ k, bvB v k → S k
  bd : ∀ k, S k → w0 ≤ k ∧ k < W.heap.size
  ext : Ext wx W
theorem Gath.keeps {w0 : Nat} {wx W W' : World} {g2 : Nat} {S X : Nat → Prop} {vs : List BV} {A2 : Option Addr} {c2 : Nat} (h : Gath w0 wx g2 S vs W A2 c2) (hk : Keeps W W' X) (hn : ∀ k, S k → ¬ X k) (hx : ∀ k, X k → wx.heap.size ≤ k) : Gath w0 wx g2 S vs W' A2 c2 :=
  ⟨h.cell.keeps hk (hn _ h.in2), h.rows.keeps hk (fun ad ha => hn _ (h.inA ad ha)) (fun v hv k hk2 => hn _ (h.inV v hv k hk2)), h.in2, h.inA, h.inV, fun k hk2 => ⟨(h.bd k hk2).1, Nat.lt_of_lt_of_le (h.bd k hk2).2 hk.size⟩, hk.ext h.ext hx⟩
/-- One payload more: the cell's list, and the cell, written. -/
theorem Gath.add {w0 : Nat} {wx W W4 W5 W6 : World} {g2 : Nat} {S : Nat → Prop} {vs : List BV} {v : BV} {A2 A5 : Option Addr} {c2 c5 : Nat} (h : Gath w0 wx g2 S vs W A2 c2) (hw0 : w0 = wx.heap.size) (hv : bvOwn W w0 v) (hn : ∀ k, bvB v k → ¬ S k) (hx4 : Ext W W4)
    (ho5 : W5.ownsRow w0 22 1 (.slice A5 (vs.length + 1) c5) (vs.length + 1) (vs.map sv ++ [sv v])) (hg5 : W4.grownBy W5 (Value.ownBlock (.slice A2 vs.length c2))) (hw5 : Value.ownBlock (.slice A5 (vs.length + 1) c5) = Value.ownBlock (.slice A2 vs.length c2) ∨ Value.ownBlock (.slice A5 (vs.length + 1) c5) = some W4.heap.size)
    (hb6 : Blk W6 g2 34 #[.slice A5 (vs.length + 1) c5]) (hg6 : W5.grownBy W6 (some g2)) : Gath w0 wx g2 (fun k => S k ∨ bvB v k ∨ (W.heap.size ≤ k ∧ k < W6.heap.size)) (vs ++ [v]) W6 A5 c5 ∧ Keeps W W6 S := by
  have hR4 := h.rows.ext hx4
  have hap : ∀ u ∈ vs, Apart u v := fun u hu k hk hk2 => hn k hk2 (h.inV u hu k hk)
  have hR5 := hR4.add (own_ext hv hx4) hap hg5 ho5
  have hk5 : Keeps W4 W5 S := Keeps.of_grown hg5 (fun g hg => by
    cases A2 with
    | none => cases hg
    | some ad => cases hg; exact h.inA ad rfl)
  have hk6 : Keeps W5 W6 (· = g2) := Keeps.of_only hg6 rfl
  have hK : Keeps W W6 S := (Keeps.of_ext hx4 S).trans' (hk5.trans' (hk6.mono fun k _ hk => by rw [hk]; exact h.in2))
  have hc5 : Blk W5 g2 34 #[.slice A2 vs.length c2] := (h.cell.ext hx4).keeps (S := fun k => ∃ ad, A2 = some ad ∧ ad.block = k) (Keeps.of_grown hg5 (fun g hg => by
    cases A2 with
    | none => cases hg
    | some ad => cases hg; exact ⟨ad, rfl, rfl⟩)) (fun ⟨ad, ha, hb⟩ => own_ne_blk hR4.row (h.cell.ext hx4) (by decide) ad ha hb)
  have s4 := hx4.size
  have s5 := hk5.size
  have s6 := hk6.size
  have hb2 := h.bd g2 h.in2
  refine ⟨⟨?_, hR5.keeps hk6 (fun ad ha => own_ne_blk hR5.row hc5 (by decide) ad ha) (fun u hu k ⟨ad, ha, hb⟩ hk => own_ne_blk (hR5.each u hu) hc5 (by decide) ad ha (by rw [hb, hk])), .inl h.in2, fun ad ha => ?_, fun u hu k hk => ?_, fun k hk => ?_, hK.ext h.ext (fun k hk => by rw [← hw0]; exact (h.bd k hk).1)⟩, hK⟩
  · rw [List.length_append]; exact hb6
  · rcases own_block_or hw5 ha with ⟨ad2, ha2, hb⟩ | hb
    · rw [← hb]; exact .inl (h.inA ad2 ha2)
    · have := (own_block hR5.row ad ha).2
      exact .inr (.inr ⟨by omega, by omega⟩)
  · rcases List.mem_append.1 hu with h1 | h1
    · exact .inl (h.inV u h1 k hk)
    · rw [List.mem_singleton.1 h1] at hk; exact .inr (.inl hk)
  · rcases hk with hk | hk | hk
    · have := h.bd k hk; omega
    · have := hv.lt hk; omega
    · have := h.ext.size; omega
set_option maxHeartbeats 8000000 in
theorem frameAll_any (w : World) (A : Option Addr) (c : Nat) (b : List UInt8) (hb : Bs w A b) (hc : b.length ≤ c) (hl : b.length ≤ 100000) :
    Calls Try.prog 16 #[.slice A b.length c] w (AllP w b) := by
  have hlen := Rd.lt hb
  refine calls_of_LW Try.func16 rfl (by simp [Try.ntmps16]) ?_
  refine go_Frm2 (k := ?_)
  refine OW_alloc1 (.slice none 0 0) (fun w => by kernel_rfl) ?_
  intro w1 g2 hb2 hg2 hl2 hx1
  refine go_Frm2 (k := ?_)
  refine OW_alloc1 (.int .i64 0) (fun w => by kernel_rfl) ?_
  intro w2 g3 hb3 hg3 hl3 hx2
  refine go_Frm2 (k := ?_)
  refine OW_callC Try.func31 (by kernel_rfl) rfl (frames_any w2 A b.length c) rfl ?_
  rintro en w3 ⟨gB, rfl, hbB, hgB, hx3⟩
  refine ⟨_, rfl, ?_⟩
  have hx02 := hx1.trans' hx2
  have hx03 := hx02.trans' hx3
  replace hb2 := hb2.ext (hx2.trans' hx3)
  replace hb3 := hb3.ext hx3
  refine go_Frm2 (k := ?_)
  refine LW_forget [2, 3, 7] ?_
  intro e5 h5
  have q2 : e5 2 = .pointer (some ⟨g2, 0, none⟩) := h5 2 (by decide)
  have q3 : e5 3 = .pointer (some ⟨g3, 0, none⟩) := h5 3 (by decide)
  have q7 : e5 7 = .func (.func 40) #[] #[.pointer (some ⟨gB, 0, none⟩)] := h5 7 (by decide)
  clear h5
  rw [upd_self q2, upd_self q3, upd_self q7]
  have s02 := hx02.size
  have s1 := hx1.size
  have s2 := hx2.size
  have s3 := hx3.size
  have hlB := hbB.lt
  have hne23 : g2 ≠ g3 := by omega
  refine LW_range3 (ps := [8, 9]) (frames_iter b w.heap.size gB A c hc hl) Try.func40 (by kernel_rfl) rfl rfl (fun x => rfl) (by decide) (fun k => k = g2 ∨ k = g3) (fun k hk => ?_) (fun k hk => by rcases hk with h | h <;> omega) (fun W hW => ⟨by have := hW.size; omega, hbB.ext hW, (hb.ext hx03).ext hW⟩)
    (fun S xs W => ∃ A2 c2, Gath w.heap.size w g2 S (xs.map Prod.snd) W A2 c2 ∧ Blk W g3 3 #[.int .i64 ((framesB ((xs.map Prod.snd).map pay)).length : Int)] ∧ S g3) (fun _ _ _ _ => False) (fun S s W ⟨A2, c2, h, _⟩ k hk => (h.bd k hk).2) ?_ (fun _ _ _ _ _ h _ _ => h) ?_
    (fun x => upd (upd (upd (upd (upd (upd (upd e5 7 (.func (.func 40) #[] #[.pointer (some ⟨gB, 0, none⟩)])) 3 (.pointer (some ⟨g3, 0, none⟩))) 2 (.pointer (some ⟨g2, 0, none⟩))) 8 (.int .i64 x.1)) 9 (sv x.2)) 4 (.int .i64 x.1)) 5 (sv x.2)) ?_ ?_ ?_ (fun c S pre W _ h _ _ => h.elim)
  · rcases hk with h | ⟨h0, ad, ha, hb4⟩
    · subst h; exact ⟨hlB, by omega⟩
    · have := hlen (by intro h; rw [List.map_eq_nil_iff] at h; rw [h] at h0; exact absurd h0 (by decide)) ad ha
      omega
  · rintro S xs W W' ⟨A2, c2, h, h3, hS3⟩ hn hk
    refine ⟨A2, c2, h.keeps hk (fun k hk2 hh => ?_) (fun k hk2 => ?_), h3.keeps hk (fun hh => ?_), hS3⟩
    · have := hn k hk2; omega
    · omega
    · have := hn g3 hS3; omega
  · exact ⟨none, 0, ⟨hb2, RowsB.nil _ _, .inl rfl, fun ad h => (by cases h), fun v h => (by simp at h), fun k hk => (by rcases hk with h | h <;> omega), hx03⟩, hb3, .inr rfl⟩
  · intro x l2 W
    unfold binds binds binds
    refine go_Frm2 (k := ?_)
    exact ⟨rfl, rfl, rfl⟩
  · rintro l2 S pre ⟨at_, Ax, cx, lx⟩ W hW ⟨A2, c2, h, h3, hS3⟩ hn ⟨k1, k2, k3, k4⟩ hG
    have hsx : sv (Ax, cx, lx) = .slice Ax lx.length cx := rfl
    rw [hsx]
    have hbd2 := h.bd g2 h.in2
    have hbd3 := h.bd g3 hS3
    have hcnt : 12 * (pre.map Prod.snd).length ≤ b.length := by
      obtain ⟨p1, p2, p3⟩ := nextL_some k2
      have h12 : ∀ vs : List BV, 12 * vs.length ≤ (framesB (vs.map pay)).length := by
        intro vs
        induction vs with
        | nil => simp [framesB]
        | cons v vs ih => rw [List.map_cons, framesB_cons, List.length_append, frameB_length, List.length_cons]; omega
      have := h12 (pre.map Prod.snd)
      rw [List.length_drop] at p2
      omega
    have hat : (at_ : Int) = ((framesB (((pre ++ [(at_, (Ax, cx, lx))]).map Prod.snd).map pay)).length : Int) := by rw [← k3]
    refine go_Frm2 (k := ?_)
    refine OW_isLoad ?_
    refine OW_loadBk one_bytess rfl h.cell (.slice A2 (pre.map Prod.snd).length c2) rfl ?_
    refine go_Frm2 (k := ?_)
    refine OW_lit [sv (Ax, cx, lx)] und_bytess info_bytes rfl rfl (by simp [sv, Value.oneCell']) (by decide) ?_
    intro w4 g4 hb4 hg4 hx4
    have hR4 := (h.rows.ext hx4).row
    refine go_Frm2 (k := ?_)
    refine OW_appendK und_bytess info_bytes rfl rfl rfl hR4 (by simpa using hb4.rd) rfl (by simp [sv, Value.oneCell']) (by unfold maxLen; omega) (by omega) (by have := h.ext.size; have := hx4.size; omega) ?_
    intro w5 A5 c5 ho5 hg5 hw5
    have hc5 : Blk w5 g2 34 #[.slice A2 (pre.map Prod.snd).length c2] := (h.cell.ext hx4).keeps (S := fun k => ∃ ad, A2 = some ad ∧ ad.block = k) (Keeps.of_grown hg5 (fun g hg => by
      cases A2 with
      | none => cases hg
      | some ad => cases hg; exact ⟨ad, rfl, rfl⟩)) (fun ⟨ad, ha, hb⟩ => own_ne_blk hR4 (h.cell.ext hx4) (by decide) ad ha hb)
    refine go_Frm2 (k := ?_)
    refine OW_storeB one_bytess rfl (.slice A5 ((pre.map Prod.snd).length + 1) c5) rfl rfl hc5 Nat.one_pos ?_
    intro w6 hb6 hg6
    obtain ⟨hG6, hK6⟩ := h.add (v := (Ax, cx, lx)) rfl k1 k4 hx4 ho5 hg5 hw5 hb6 hg6
    have h36 : Blk w6 g3 3 #[.int .i64 ((framesB ((pre.map Prod.snd).map pay)).length : Int)] := by
      refine ((h3.ext hx4).keeps (S := fun k => ∃ ad, A2 = some ad ∧ ad.block = k) (Keeps.of_grown hg5 (fun g hg => by
        cases A2 with
        | none => cases hg
        | some ad => cases hg; exact ⟨ad, rfl, rfl⟩)) (fun ⟨ad, ha, hb⟩ => own_ne_blk hR4 (h3.ext hx4) (by decide) ad ha hb)).keeps (Keeps.of_only (S := (· = g2)) hg6 rfl) (by omega)
    refine go_Frm2 (k := ?_)
    refine OW_storeB s_int rfl (.int .i64 at_) rfl rfl h36 Nat.one_pos ?_
    intro w7 hb7 hg7
    have hk7 : Keeps w6 w7 (· = g3) := Keeps.of_only hg7 rfl
    have s67 := hk7.size
    refine go_Frm2 (k := ?_)
    have hgx : ∀ k, bvB (Ax, cx, lx) k → k ≠ g3 := fun k hk hh => k4 k hk (by rw [hh]; exact hS3)
    refine ⟨(hK6.trans' (hk7.mono fun k _ hk => by rw [hk]; exact hS3)).mono fun k _ hk => .inl hk, fun k => S k ∨ bvB (Ax, cx, lx) k ∨ (W.heap.size ≤ k ∧ k < w6.heap.size), fun k hk => ?_, A5, c5, ?_, ?_, .inl hS3⟩
    · rcases hk with hk | hk | hk
      · exact .inl hk
      · exact .inr (.inr hk)
      · exact .inr (.inl hk.1)
    · rw [List.map_append]
      have hf : ∀ {g T cs}, Blk w6 g T cs → T ≠ 3 → g ≠ g3 := fun hb hT hh => by
        subst hh
        unfold Blk at hb h36
        rw [hb] at h36
        injection h36 with h36
        injection h36 with _ h36
        exact hT h36
      refine ⟨hG6.cell.keeps hk7 (by omega), hG6.rows.keeps hk7 (fun ad ha => own_ne_blk hG6.rows.row h36 (by decide) ad ha) (fun u hu k ⟨ad, ha, hb⟩ hk => own_ne_blk (hG6.rows.each u hu) h36 (by decide) ad ha (by rw [hb, hk])), hG6.in2, hG6.inA, hG6.inV, fun k hk => ⟨(hG6.bd k hk).1, Nat.lt_of_lt_of_le (hG6.bd k hk).2 s67⟩, hk7.ext hG6.ext (fun k hk => by omega)⟩
    · rw [← hat]; exact hb7
  · rintro S xs W hS ⟨A2, c2, h, h3, hS3⟩ hn hD
    have hbd2 := h.bd g2 h.in2
    have hbd3 := h.bd g3 hS3
    refine go_Frm2 (k := ?_)
    obtain ⟨C, hC⟩ : ∃ C : World → Prop, C = fun v => Blk v g2 34 #[.slice A2 (xs.map Prod.snd).length c2] ∧ Blk v g3 3 #[.int .i64 ((framesB ((xs.map Prod.snd).map pay)).length : Int)] := ⟨_, rfl⟩
    have y2 : ∀ v, C v → Blk v g2 34 #[.slice A2 (xs.map Prod.snd).length c2] := fun v hv => by rw [hC] at hv; exact hv.1
    have y3 : ∀ v, C v → Blk v g3 3 #[.int .i64 ((framesB ((xs.map Prod.snd).map pay)).length : Int)] := fun v hv => by rw [hC] at hv; exact hv.2
    refine FW_tree2 [0, 1] (.q 0 (.q 1 (.a 2 (.d 3 .done)))) (C) (by kernel_rfl) (by kernel_rfl) (by kernel_rfl) ?_ ?_
    · exact fun v hv => by rw [hC]; exact ⟨h.cell.ext hv, h3.ext hv⟩
    intro w6 hx6 hC6
    refine oy_Frm2 (k := ?_)
    refine OW_storeB one_bytess rfl (.slice A2 (xs.map Prod.snd).length c2) rfl rfl (y2 _ hC6) Nat.one_pos ?_
    intro w7 hb7 hg7
    have hk7 : Keeps w6 w7 (· = g2) := Keeps.of_only hg7 rfl
    have hC7 : C w7 := by rw [hC]; exact ⟨hb7, (y3 _ hC6).keeps hk7 (by omega)⟩
    refine OW_nil (goY_mk hC7 ?_)
    refine oy_Frm2 (k := ?_)
    refine OW_storeB s_int rfl (.int .i64 ((framesB ((xs.map Prod.snd).map pay)).length : Int)) rfl rfl (y3 _ hC7) Nat.one_pos ?_
    intro w8 hb8 hg8
    have hk8 : Keeps w7 w8 (· = g3) := Keeps.of_only hg8 rfl
    have hk68 : Keeps w6 w8 (fun k => k = g2 ∨ k = g3) := (hk7.mono fun k _ hk => .inl hk).trans' (hk8.mono fun k _ hk => .inr hk)
    have hb78 := (y2 _ hC7).keeps hk8 (by omega)
    refine OW_nil (goY_done ?_)
    have hD8 : w8.heap[w3.heap.size]? = some (.deferred (some [])) := by
      rw [hk68.block _ (Array.getElem?_eq_some_iff.1 ((hx6.block _ (Array.getElem?_eq_some_iff.1 hD).1).trans hD)).1 (by omega)]
      exact (hx6.block _ (Array.getElem?_eq_some_iff.1 hD).1).trans hD
    refine go_Frm2 (k := ?_)
    have hkD : Keeps w8 (w8.putObj w3.heap.size (.deferred none)) (· = w3.heap.size) := Keeps.put _ _ _
    refine leaveM_of hD8 (bodyE_ret1c1c rfl one_bytess s_int rfl rfl ((hb78.keeps hkD (by omega)).cell 0) ((hb8.keeps hkD (by omega)).cell 0) ⟨A2, c2, xs.map Prod.snd, rfl, hS, ?_, ?_⟩)
    · have hR6 := h.rows.ext hx6
      refine (hR6.keeps hk68 (fun ad ha => ?_) (fun u hu k ⟨ad, ha, hb⟩ hk => ?_)).keeps hkD (fun ad ha hh => ?_) (fun u hu k hk hh => ?_)
      · rintro (hh | hh)
        · exact own_ne_blk hR6.row (y2 _ hC6) (by decide) ad ha hh
        · exact own_ne_blk hR6.row (y3 _ hC6) (by decide) ad ha hh
      · rcases hk with hh | hh
        · exact own_ne_blk (hR6.each u hu) (y2 _ hC6) (by decide) ad ha (by rw [hb, hh])
        · exact own_ne_blk (hR6.each u hu) (y3 _ hC6) (by decide) ad ha (by rw [hb, hh])
      · have := hn _ (h.inA ad ha); omega
      · have := hn _ (h.inV u hu k hk); omega
    · have hx06 := h.ext.trans' hx6
      exact hkD.ext (hk68.ext hx06 (fun k hk => by rcases hk with h | h <;> omega)) (fun k hk => by omega)
end Go.Proofs.Ytdphahphbaebkaa
