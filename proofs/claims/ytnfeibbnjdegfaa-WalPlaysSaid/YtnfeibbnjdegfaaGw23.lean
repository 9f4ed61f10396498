/- Several texts in one, as they stand in wip/src. -/
import Derived.Test.YtnfeibbnjdegfaaGw16
import Derived.Test.YtnfeibbnjdegfaaGw22
/- Walks: the reference's wal. -/
namespace Go.Proofs.Ytnfeibbnjdegfaa
open Go Go.RowKit
set_option linter.unusedVariables false
set_option maxRecDepth 4000
theorem go_WalG {A B : Prop} (h : Held B → A := by
  intro hEnd
  repeat (first | refine OW_nilCheck rfl ?_ | refine OW_fieldB fldo_E0 rfl ?_ | refine OW_fieldB fldo_E1 rfl ?_ | refine OW_fieldB fldo_E2 rfl ?_ | refine OW_fieldB fldo_E3 rfl ?_ | (refine OW_isLoad ?_; refine OW_loadBk (by first | with_reducible exact one_bytes | with_reducible exact s_int | with_reducible exact s_bool) rfl (by assumption) _ rfl ?_) | refine OW_moveV (.int _ _) rfl ?_ | refine OW_moveV (.slice _ _ _) rfl ?_ | refine OW_moveV (.bool _) rfl ?_ | refine OW_moveV (.pointer _) rfl ?_ | refine OW_moveV (.string _) rfl ?_ | refine OW_moveV (.agg _) rfl ?_ | refine OW_moveV (.tuple _) rfl ?_ | refine OW_nil ?_ | refine thenE_normal ?_ | refine CW_seq ?_ | refine CW_region (by kernel_rfl) ?_ | refine OW_assignV (.int _ _) rfl ?_ | refine OW_assignV (.slice _ _ _) rfl ?_ | refine OW_assignV (.bool _) rfl ?_ | refine OW_assignV (.pointer _) rfl ?_ | refine OW_assignV (.string _) rfl ?_ | refine OW_assignV (.agg _) rfl ?_ | refine OW_assignV (.tuple _) rfl ?_ | refine OW_addI rfl rfl (by omega) ?_ | refine OW_subI rfl rfl (by omega) ?_ | refine OW_mulI rfl rfl (by omega) ?_ | refine OW_lss rfl rfl ?_ | refine OW_extract rfl rfl ?_ | refine OW_gtr rfl rfl ?_ | refine OW_leq rfl rfl ?_ | refine OW_geq rfl rfl ?_ | refine OW_eql rfl rfl ?_ | refine OW_neq rfl rfl ?_ | refine OW_not rfl ?_ | refine OW_pickT rfl _ rfl ?_ | refine OW_pickF rfl (.bool _) rfl ?_ | refine OW_pickB rfl rfl rfl ?_ | refine OW_move ?_ | refine OW_assign ?_ | refine OW_pass rfl ?_ | refine OW_take rfl ?_ | refine OW_lenS (by first | with_reducible exact und_bytes | with_reducible exact und_bytess) rfl ?_ | refine OW_convInt (by first | with_reducible exact und_u8 | with_reducible exact und_u64 | with_reducible exact und_int | with_reducible exact und_u32) (by first | with_reducible exact und_u8 | with_reducible exact und_u64 | with_reducible exact und_int | with_reducible exact und_u32) rfl ?_ | refine OW_add rfl rfl ?_ | refine OW_sub rfl rfl ?_ | refine OW_mul rfl rfl ?_ | refine OW_min2 rfl rfl ?_ | refine OW_max2 rfl rfl ?_ | refine OW_neg rfl ?_ | refine CW_block ?_ | refine CW_condT rfl ?_ | refine CW_condF rfl ?_ | refine CW_exit ?_ | refine CW_ret ?_ | refine CW_skip ?_ | refine LW_seq ?_ | refine LW_regC ?_ | refine LW_condC ?_ | refine LW_regF ?_ | refine LW_condF ?_ | refine FW_seq ?_ | refine FW_region (by kernel_rfl) ?_ | refine FW_block ?_ | refine FW_condT rfl ?_ | refine FW_condF rfl ?_ | refine FW_exit ?_ | refine FW_ret ?_ | refine FW_skip ?_ | refine LW_ret ?_ | refine LW_skip ?_ | refine thenE_exit ?_ | refine thenE_ret ?_ | refine inBlockE_normal ?_ | refine inBlockE_same ?_ | refine inBlockE_ret ?_ | refine inBlockE_ne (by rfl) ?_ | refine OW_eqlB (by with_reducible exact und_bool) rfl rfl ?_ | refine OW_neqB (by with_reducible exact und_bool) rfl rfl ?_ | refine OW_idxS (by with_reducible exact und_bytes) one_u8 rfl rfl _ rfl (by omega) ?_ | refine OW_idxS (by with_reducible exact und_bytess) one_bytes rfl rfl _ rfl (by omega) ?_ | refine OW_load1 (by first | with_reducible exact one_u8 | with_reducible exact one_bytes) rfl _ (by assumption) ?_)
  exact hEnd.out) (k : B) : A := h ⟨k⟩
theorem oy_WalG {A B : Prop} (h : Held B → A := by
  intro hEnd
  repeat (first
    | refine OY_done ?_
    | (apply OY_p _ rfl
       · intro wd
         (first | refine OW_nilCheck rfl ?_ | refine OW_fieldB fldo_E0 rfl ?_ | refine OW_fieldB fldo_E1 rfl ?_ | refine OW_fieldB fldo_E2 rfl ?_ | refine OW_fieldB fldo_E3 rfl ?_ | (refine OW_isLoad ?_; refine OW_loadBk (by first | refine with_reducible exact one_bytes | refine with_reducible exact s_int | refine with_reducible exact s_bool) rfl (by assumption) _ rfl ?_) | refine OW_moveV (.int _ _) rfl ?_ | refine OW_moveV (.slice _ _ _) rfl ?_ | refine OW_moveV (.bool _) rfl ?_ | refine OW_moveV (.pointer _) rfl ?_ | refine OW_moveV (.string _) rfl ?_ | refine OW_moveV (.agg _) rfl ?_ | refine OW_moveV (.tuple _) rfl ?_ | refine OW_nil ?_ | refine thenE_normal ?_ | refine CW_seq ?_ | refine CW_region (by kernel_rfl) ?_ | refine OW_assignV (.int _ _) rfl ?_ | refine OW_assignV (.slice _ _ _) rfl ?_ | refine OW_assignV (.bool _) rfl ?_ | refine OW_assignV (.pointer _) rfl ?_ | refine OW_assignV (.string _) rfl ?_ | refine OW_assignV (.agg _) rfl ?_ | refine OW_assignV (.tuple _) rfl ?_ | refine OW_addI rfl rfl (by omega) ?_ | refine OW_subI rfl rfl (by omega) ?_ | refine OW_mulI rfl rfl (by omega) ?_ | refine OW_lss rfl rfl ?_ | refine OW_extract rfl rfl ?_ | refine OW_gtr rfl rfl ?_ | refine OW_leq rfl rfl ?_ | refine OW_geq rfl rfl ?_ | refine OW_eql rfl rfl ?_ | refine OW_neq rfl rfl ?_ | refine OW_not rfl ?_ | refine OW_pickT rfl _ rfl ?_ | refine OW_pickF rfl (.bool _) rfl ?_ | refine OW_pickB rfl rfl rfl ?_ | refine OW_move ?_ | refine OW_assign ?_ | refine OW_pass rfl ?_ | refine OW_take rfl ?_ | refine OW_lenS (by first | with_reducible exact und_bytes | with_reducible exact und_bytess) rfl ?_ | refine OW_convInt (by first | with_reducible exact und_u8 | with_reducible exact und_u64 | with_reducible exact und_int | with_reducible exact und_u32) (by first | with_reducible exact und_u8 | with_reducible exact und_u64 | with_reducible exact und_int | with_reducible exact und_u32) rfl ?_ | refine OW_add rfl rfl ?_ | refine OW_sub rfl rfl ?_ | refine OW_mul rfl rfl ?_ | refine OW_min2 rfl rfl ?_ | refine OW_max2 rfl rfl ?_ | refine OW_neg rfl ?_ | refine CW_block ?_ | refine CW_condT rfl ?_ | refine CW_condF rfl ?_ | refine CW_exit ?_ | refine CW_ret ?_ | refine CW_skip ?_ | refine LW_seq ?_ | refine LW_regC ?_ | refine LW_condC ?_ | refine LW_regF ?_ | refine LW_condF ?_ | refine FW_seq ?_ | refine FW_region (by kernel_rfl) ?_ | refine FW_block ?_ | refine FW_condT rfl ?_ | refine FW_condF rfl ?_ | refine FW_exit ?_ | refine FW_ret ?_ | refine FW_skip ?_ | refine LW_ret ?_ | refine LW_skip ?_ | refine thenE_exit ?_ | refine thenE_ret ?_ | refine inBlockE_normal ?_ | refine inBlockE_same ?_ | refine inBlockE_ret ?_ | refine inBlockE_ne (by rfl) ?_ | refine OW_eqlB (by with_reducible exact und_bool) rfl rfl ?_ | refine OW_neqB (by with_reducible exact und_bool) rfl rfl ?_ | refine OW_idxS (by with_reducible exact und_bytes) one_u8 rfl rfl _ rfl (by omega) ?_ | refine OW_idxS (by with_reducible exact und_bytess) one_bytes rfl rfl _ rfl (by omega) ?_ | refine OW_load1 (by first | with_reducible exact one_u8 | with_reducible exact one_bytes) rfl _ (by assumption) ?_)
         refine OW_nil ?_
         exact stay_mk _ _ _ _)
    | (apply OY_q _ rfl
       · intro wd hwd
         (first | refine OW_nilCheck rfl ?_ | refine OW_fieldB fldo_E0 rfl ?_ | refine OW_fieldB fldo_E1 rfl ?_ | refine OW_fieldB fldo_E2 rfl ?_ | refine OW_fieldB fldo_E3 rfl ?_ | (refine OW_isLoad ?_; refine OW_loadBk (by first | refine with_reducible exact one_bytes | refine with_reducible exact s_int | refine with_reducible exact s_bool) rfl (by assumption) _ rfl ?_) | refine OW_moveV (.int _ _) rfl ?_ | refine OW_moveV (.slice _ _ _) rfl ?_ | refine OW_moveV (.bool _) rfl ?_ | refine OW_moveV (.pointer _) rfl ?_ | refine OW_moveV (.string _) rfl ?_ | refine OW_moveV (.agg _) rfl ?_ | refine OW_moveV (.tuple _) rfl ?_ | refine OW_nil ?_ | refine thenE_normal ?_ | refine CW_seq ?_ | refine CW_region (by kernel_rfl) ?_ | refine OW_assignV (.int _ _) rfl ?_ | refine OW_assignV (.slice _ _ _) rfl ?_ | refine OW_assignV (.bool _) rfl ?_ | refine OW_assignV (.pointer _) rfl ?_ | refine OW_assignV (.string _) rfl ?_ | refine OW_assignV (.agg _) rfl ?_ | refine OW_assignV (.tuple _) rfl ?_ | refine OW_addI rfl rfl (by omega) ?_ | refine OW_subI rfl rfl (by omega) ?_ | refine OW_mulI rfl rfl (by omega) ?_ | refine OW_lss rfl rfl ?_ | refine OW_extract rfl rfl ?_ | refine OW_gtr rfl rfl ?_ | refine OW_leq rfl rfl ?_ | refine OW_geq rfl rfl ?_ | refine OW_eql rfl rfl ?_ | refine OW_neq rfl rfl ?_ | refine OW_not rfl ?_ | refine OW_pickT rfl _ rfl ?_ | refine OW_pickF rfl (.bool _) rfl ?_ | refine OW_pickB rfl rfl rfl ?_ | refine OW_move ?_ | refine OW_assign ?_ | refine OW_pass rfl ?_ | refine OW_take rfl ?_ | refine OW_lenS (by first | with_reducible exact und_bytes | with_reducible exact und_bytess) rfl ?_ | refine OW_convInt (by first | with_reducible exact und_u8 | with_reducible exact und_u64 | with_reducible exact und_int | with_reducible exact und_u32) (by first | with_reducible exact und_u8 | with_reducible exact und_u64 | with_reducible exact und_int | with_reducible exact und_u32) rfl ?_ | refine OW_add rfl rfl ?_ | refine OW_sub rfl rfl ?_ | refine OW_mul rfl rfl ?_ | refine OW_min2 rfl rfl ?_ | refine OW_max2 rfl rfl ?_ | refine OW_neg rfl ?_ | refine CW_block ?_ | refine CW_condT rfl ?_ | refine CW_condF rfl ?_ | refine CW_exit ?_ | refine CW_ret ?_ | refine CW_skip ?_ | refine LW_seq ?_ | refine LW_regC ?_ | refine LW_condC ?_ | refine LW_regF ?_ | refine LW_condF ?_ | refine FW_seq ?_ | refine FW_region (by kernel_rfl) ?_ | refine FW_block ?_ | refine FW_condT rfl ?_ | refine FW_condF rfl ?_ | refine FW_exit ?_ | refine FW_ret ?_ | refine FW_skip ?_ | refine LW_ret ?_ | refine LW_skip ?_ | refine thenE_exit ?_ | refine thenE_ret ?_ | refine inBlockE_normal ?_ | refine inBlockE_same ?_ | refine inBlockE_ret ?_ | refine inBlockE_ne (by rfl) ?_ | refine OW_eqlB (by with_reducible exact und_bool) rfl rfl ?_ | refine OW_neqB (by with_reducible exact und_bool) rfl rfl ?_ | refine OW_idxS (by with_reducible exact und_bytes) one_u8 rfl rfl _ rfl (by omega) ?_ | refine OW_idxS (by with_reducible exact und_bytess) one_bytes rfl rfl _ rfl (by omega) ?_ | refine OW_load1 (by first | with_reducible exact one_u8 | with_reducible exact one_bytes) rfl _ (by assumption) ?_ | (refine OW_isLoad ?_; refine OW_loadBk (by first | with_reducible exact one_u8 | with_reducible exact one_bytes | with_reducible exact one_bool | with_reducible exact one_int | with_reducible exact one_errno | with_reducible exact one_u32 | with_reducible exact one_u64 | with_reducible exact one_string | with_reducible exact s_int | with_reducible exact s_bool) rfl (by apply_assumption; assumption) _ (by first | assumption | rfl) ?_) | refine OW_load1 (by first | with_reducible exact one_u8 | with_reducible exact one_bytes | with_reducible exact one_bool | with_reducible exact one_int | with_reducible exact one_errno | with_reducible exact one_u32 | with_reducible exact one_u64 | with_reducible exact one_string | with_reducible exact s_int | with_reducible exact s_bool) rfl _ (by apply_assumption; assumption) ?_)
         refine OW_nil ?_
         exact stay_mk _ _ _ _)
    | refine OY_ppass rfl rfl ?_
    | refine OY_qpass rfl rfl ?_
    | (apply OY_ptake _ rfl rfl
       · intro wd
         (first | refine OW_nilCheck rfl ?_ | refine OW_fieldB fldo_E0 rfl ?_ | refine OW_fieldB fldo_E1 rfl ?_ | refine OW_fieldB fldo_E2 rfl ?_ | refine OW_fieldB fldo_E3 rfl ?_ | (refine OW_isLoad ?_; refine OW_loadBk (by first | refine with_reducible exact one_bytes | refine with_reducible exact s_int | refine with_reducible exact s_bool) rfl (by assumption) _ rfl ?_) | refine OW_moveV (.int _ _) rfl ?_ | refine OW_moveV (.slice _ _ _) rfl ?_ | refine OW_moveV (.bool _) rfl ?_ | refine OW_moveV (.pointer _) rfl ?_ | refine OW_moveV (.string _) rfl ?_ | refine OW_moveV (.agg _) rfl ?_ | refine OW_moveV (.tuple _) rfl ?_ | refine OW_nil ?_ | refine thenE_normal ?_ | refine CW_seq ?_ | refine CW_region (by kernel_rfl) ?_ | refine OW_assignV (.int _ _) rfl ?_ | refine OW_assignV (.slice _ _ _) rfl ?_ | refine OW_assignV (.bool _) rfl ?_ | refine OW_assignV (.pointer _) rfl ?_ | refine OW_assignV (.string _) rfl ?_ | refine OW_assignV (.agg _) rfl ?_ | refine OW_assignV (.tuple _) rfl ?_ | refine OW_addI rfl rfl (by omega) ?_ | refine OW_subI rfl rfl (by omega) ?_ | refine OW_mulI rfl rfl (by omega) ?_ | refine OW_lss rfl rfl ?_ | refine OW_extract rfl rfl ?_ | refine OW_gtr rfl rfl ?_ | refine OW_leq rfl rfl ?_ | refine OW_geq rfl rfl ?_ | refine OW_eql rfl rfl ?_ | refine OW_neq rfl rfl ?_ | refine OW_not rfl ?_ | refine OW_pickT rfl _ rfl ?_ | refine OW_pickF rfl (.bool _) rfl ?_ | refine OW_pickB rfl rfl rfl ?_ | refine OW_move ?_ | refine OW_assign ?_ | refine OW_pass rfl ?_ | refine OW_take rfl ?_ | refine OW_lenS (by first | with_reducible exact und_bytes | with_reducible exact und_bytess) rfl ?_ | refine OW_convInt (by first | with_reducible exact und_u8 | with_reducible exact und_u64 | with_reducible exact und_int | with_reducible exact und_u32) (by first | with_reducible exact und_u8 | with_reducible exact und_u64 | with_reducible exact und_int | with_reducible exact und_u32) rfl ?_ | refine OW_add rfl rfl ?_ | refine OW_sub rfl rfl ?_ | refine OW_mul rfl rfl ?_ | refine OW_min2 rfl rfl ?_ | refine OW_max2 rfl rfl ?_ | refine OW_neg rfl ?_ | refine CW_block ?_ | refine CW_condT rfl ?_ | refine CW_condF rfl ?_ | refine CW_exit ?_ | refine CW_ret ?_ | refine CW_skip ?_ | refine LW_seq ?_ | refine LW_regC ?_ | refine LW_condC ?_ | refine LW_regF ?_ | refine LW_condF ?_ | refine FW_seq ?_ | refine FW_region (by kernel_rfl) ?_ | refine FW_block ?_ | refine FW_condT rfl ?_ | refine FW_condF rfl ?_ | refine FW_exit ?_ | refine FW_ret ?_ | refine FW_skip ?_ | refine LW_ret ?_ | refine LW_skip ?_ | refine thenE_exit ?_ | refine thenE_ret ?_ | refine inBlockE_normal ?_ | refine inBlockE_same ?_ | refine inBlockE_ret ?_ | refine inBlockE_ne (by rfl) ?_ | refine OW_eqlB (by with_reducible exact und_bool) rfl rfl ?_ | refine OW_neqB (by with_reducible exact und_bool) rfl rfl ?_ | refine OW_idxS (by with_reducible exact und_bytes) one_u8 rfl rfl _ rfl (by omega) ?_ | refine OW_idxS (by with_reducible exact und_bytess) one_bytes rfl rfl _ rfl (by omega) ?_ | refine OW_load1 (by first | with_reducible exact one_u8 | with_reducible exact one_bytes) rfl _ (by assumption) ?_)
         refine OW_nil ?_
         exact stay_mk _ _ _ _)
    | (apply OY_qtake _ rfl rfl
       · intro wd hwd
         (first | refine OW_nilCheck rfl ?_ | refine OW_fieldB fldo_E0 rfl ?_ | refine OW_fieldB fldo_E1 rfl ?_ | refine OW_fieldB fldo_E2 rfl ?_ | refine OW_fieldB fldo_E3 rfl ?_ | (refine OW_isLoad ?_; refine OW_loadBk (by first | refine with_reducible exact one_bytes | refine with_reducible exact s_int | refine with_reducible exact s_bool) rfl (by assumption) _ rfl ?_) | refine OW_moveV (.int _ _) rfl ?_ | refine OW_moveV (.slice _ _ _) rfl ?_ | refine OW_moveV (.bool _) rfl ?_ | refine OW_moveV (.pointer _) rfl ?_ | refine OW_moveV (.string _) rfl ?_ | refine OW_moveV (.agg _) rfl ?_ | refine OW_moveV (.tuple _) rfl ?_ | refine OW_nil ?_ | refine thenE_normal ?_ | refine CW_seq ?_ | refine CW_region (by kernel_rfl) ?_ | refine OW_assignV (.int _ _) rfl ?_ | refine OW_assignV (.slice _ _ _) rfl ?_ | refine OW_assignV (.bool _) rfl ?_ | refine OW_assignV (.pointer _) rfl ?_ | refine OW_assignV (.string _) rfl ?_ | refine OW_assignV (.agg _) rfl ?_ | refine OW_assignV (.tuple _) rfl ?_ | refine OW_addI rfl rfl (by omega) ?_ | refine OW_subI rfl rfl (by omega) ?_ | refine OW_mulI rfl rfl (by omega) ?_ | refine OW_lss rfl rfl ?_ | refine OW_extract rfl rfl ?_ | refine OW_gtr rfl rfl ?_ | refine OW_leq rfl rfl ?_ | refine OW_geq rfl rfl ?_ | refine OW_eql rfl rfl ?_ | refine OW_neq rfl rfl ?_ | refine OW_not rfl ?_ | refine OW_pickT rfl _ rfl ?_ | refine OW_pickF rfl (.bool _) rfl ?_ | refine OW_pickB rfl rfl rfl ?_ | refine OW_move ?_ | refine OW_assign ?_ | refine OW_pass rfl ?_ | refine OW_take rfl ?_ | refine OW_lenS (by first | with_reducible exact und_bytes | with_reducible exact und_bytess) rfl ?_ | refine OW_convInt (by first | with_reducible exact und_u8 | with_reducible exact und_u64 | with_reducible exact und_int | with_reducible exact und_u32) (by first | with_reducible exact und_u8 | with_reducible exact und_u64 | with_reducible exact und_int | with_reducible exact und_u32) rfl ?_ | refine OW_add rfl rfl ?_ | refine OW_sub rfl rfl ?_ | refine OW_mul rfl rfl ?_ | refine OW_min2 rfl rfl ?_ | refine OW_max2 rfl rfl ?_ | refine OW_neg rfl ?_ | refine CW_block ?_ | refine CW_condT rfl ?_ | refine CW_condF rfl ?_ | refine CW_exit ?_ | refine CW_ret ?_ | refine CW_skip ?_ | refine LW_seq ?_ | refine LW_regC ?_ | refine LW_condC ?_ | refine LW_regF ?_ | refine LW_condF ?_ | refine FW_seq ?_ | refine FW_region (by kernel_rfl) ?_ | refine FW_block ?_ | refine FW_condT rfl ?_ | refine FW_condF rfl ?_ | refine FW_exit ?_ | refine FW_ret ?_ | refine FW_skip ?_ | refine LW_ret ?_ | refine LW_skip ?_ | refine thenE_exit ?_ | refine thenE_ret ?_ | refine inBlockE_normal ?_ | refine inBlockE_same ?_ | refine inBlockE_ret ?_ | refine inBlockE_ne (by rfl) ?_ | refine OW_eqlB (by with_reducible exact und_bool) rfl rfl ?_ | refine OW_neqB (by with_reducible exact und_bool) rfl rfl ?_ | refine OW_idxS (by with_reducible exact und_bytes) one_u8 rfl rfl _ rfl (by omega) ?_ | refine OW_idxS (by with_reducible exact und_bytess) one_bytes rfl rfl _ rfl (by omega) ?_ | refine OW_load1 (by first | with_reducible exact one_u8 | with_reducible exact one_bytes) rfl _ (by assumption) ?_ | (refine OW_isLoad ?_; refine OW_loadBk (by first | with_reducible exact one_u8 | with_reducible exact one_bytes | with_reducible exact one_bool | with_reducible exact one_int | with_reducible exact one_errno | with_reducible exact one_u32 | with_reducible exact one_u64 | with_reducible exact one_string | with_reducible exact s_int | with_reducible exact s_bool) rfl (by apply_assumption; assumption) _ (by first | assumption | rfl) ?_) | refine OW_load1 (by first | with_reducible exact one_u8 | with_reducible exact one_bytes | with_reducible exact one_bool | with_reducible exact one_int | with_reducible exact one_errno | with_reducible exact one_u32 | with_reducible exact one_u64 | with_reducible exact one_string | with_reducible exact s_int | with_reducible exact s_bool) rfl _ (by apply_assumption; assumption) ?_)
         refine OW_nil ?_
         exact stay_mk _ _ _ _)
    | refine OY_a (actY_of rfl ?_)
    | refine OY_d (actY_of rfl ?_)
    | refine OY_a (actY_pass rfl rfl ?_)
    | refine OY_d (actY_pass rfl rfl ?_)
    | refine OY_a (actY_take rfl rfl ?_)
    | refine OY_d (actY_take rfl rfl ?_))
  exact hEnd.out) (k : B) : A := h ⟨k⟩
set_option maxHeartbeats 8000000 in
theorem refAdd7_any (w : World) (g : Nat) (S : Nat → Prop) (d : DS) (h : ER w g S d) (hn : d.ws.length ≤ 100000) (A : Option Addr) (c : Nat) (b : List UInt8) (hb : Bs w A b) (hl : b.length ≤ 65536 ∧ d.all.length ≤ 100000) :
    Calls Try.prog 66 #[.pointer (some ⟨g, 0, none⟩), .slice A b.length c] w (EP w g S (dWrite d (frameB b))) := by
  have hbd := h.bd
  have hfl := frameB_length b
  have hsl := refSeal_any w A c b hb (by omega)
  generalize frameB b = F at *
  refine calls_of_CW Try.func66 rfl (by simp [Try.ntmps66]) ?_
  rw [Try.ntmps66]
  refine go_WalG (k := ?_)
  refine OW_callBs Try.func76 (by kernel_rfl) rfl hsl rfl ?_
  intro w1 A1 c1 hf1
  have hx1 := hf1.ext
  refine go_WalG (k := ?_)
  refine OW_callC Try.func58 (by kernel_rfl) rfl (eWrite_any w1 g S d (h.ext hx1) A1 c1 F hf1.bs (by omega) (by omega)) rfl ?_
  rintro en w2 ⟨h1, h2, h3⟩
  refine ⟨_, h1, ?_⟩
  have z1 := hx1.size
  have z3 := h3.size
  refine go_WalG (k := ?_)
  refine bodyE_ret1 rfl (.int .i64 (dWrite d F).1) rfl ⟨rfl, h2.mono (fun k hk => ?_) (fun k hk => ?_), (Keeps.of_ext hx1 S).trans' h3⟩
  · rcases hk with hk | hk
    · exact .inl hk
    · exact .inr ⟨by omega, hk.2⟩
  · rcases hk with hk | hk
    · have := hbd k hk; omega
    · exact hk.2
set_option maxHeartbeats 8000000 in
theorem refRecords7_any (w : World) (g : Nat) (S : Nat → Prop) (d : DS) (h : ER w g S d) (hl : d.all.length ≤ 100000) :
    Calls Try.prog 41 #[.pointer (some ⟨g, 0, none⟩)] w (RecP w d.all) := by
  obtain ⟨A, c, E, cE, hB, ⟨h1, h1c, h1f⟩, _⟩ := h.at_
  have hall := refAll_any w A c d.all h1 h1c hl
  generalize d.all = b at *
  refine calls_of_CW Try.func41 rfl (by simp [Try.ntmps41]) ?_
  rw [Try.ntmps41]
  refine go_WalG (k := ?_)
  refine OW_callC Try.func65 (by kernel_rfl) rfl hall rfl ?_
  rintro en w1 ⟨X, cX, vs, rfl, ha, hr, hx⟩
  refine ⟨_, rfl, ?_⟩
  refine go_WalG (k := ?_)
  exact bodyE_ret1 rfl (.slice X vs.length cX) rfl ⟨X, cX, vs, rfl, ha, hr, hx⟩
set_option maxHeartbeats 8000000 in
theorem refLasting7_any (w : World) (g : Nat) (S : Nat → Prop) (d : DS) (h : ER w g S d) (hl : d.all.length ≤ 100000) :
    Calls Try.prog 42 #[.pointer (some ⟨g, 0, none⟩)] w (LastP w d.s) := by
  obtain ⟨A, c, E, cE, hB, ⟨h1, h1c, h1f⟩, _⟩ := h.at_
  have hst := all_take d
  have hsl : d.s.length ≤ d.all.length := by unfold DS.all; simp
  generalize d.all = b at *
  refine calls_of_CW Try.func42 rfl (by simp [Try.ntmps42]) ?_
  rw [Try.ntmps42]
  refine go_WalG (k := ?_)
  obtain ⟨C, hC⟩ : ∃ C : World → Prop, C = fun v => Ext w v := ⟨_, rfl⟩
  have y_hB := blkE hC hB
  refine CW_tree2 [3, 7] (.p 0 (.p 1 (.p 2 (.q 3 (.p 4 (.p 5 (.p 6 (.q 7 (.p 8 (.d 9 (.p 10 (.p 11 (.p 12 (.p 13 (.p 14 .done))))))))))))))) (C) (by kernel_rfl) (by kernel_rfl) (by kernel_rfl) ?_ ?_
  · exact inE hC
  intro w1 hx1 h_C
  refine oy_WalG (k := ?_)
  refine OY_p (.slice (cutA A c 0) d.s.length (c - 0)) rfl ?_ ?_
  · intro wd
    refine OW_slice (lv := 0) (hv := d.s.length) (mv := c) und_bytes one_u8 rfl rfl ⟨_, rfl⟩ rfl (fun h => by cases h) (by omega) ?_
    refine OW_nil ?_
    exact stay_mk _ _ _ _
  refine oy_WalG (k := ?_)
  have hcut := (h1.ext hx1).cut c 0 d.s.length (by omega)
  rw [List.drop_zero, hst] at hcut
  refine OW_callC Try.func65 (by kernel_rfl) rfl (refAll_any w1 (cutA A c 0) (c - 0) d.s hcut (by omega) (by omega)) rfl ?_
  rintro en w2 ⟨X, cX, vs, rfl, ha, hr, hx2⟩
  refine ⟨_, rfl, ?_⟩
  first | refine OW_nil (goY_mkE hC (hx1.trans' hx2) ?_) | refine OW_nil (goY_dropE hC (hx1.trans' hx2) ?_)
  refine oy_WalG (k := ?_)
  refine go_WalG (k := ?_)
  exact bodyE_ret1 rfl (.int .i64 vs.length) rfl ⟨vs.map pay, ha, by simp, hx1.trans' hx2⟩
set_option maxHeartbeats 8000000 in
theorem refRecover7_any (w : World) (g : Nat) (S : Nat → Prop) (d : DS) (h : ER w g S d) (hu : d.up = true) (hl : d.all.length ≤ 100000) :
    Calls Try.prog 77 #[.pointer (some ⟨g, 0, none⟩)] w (fun en w' => ∃ X cX vs S', en = .returned (.tuple #[.slice X vs.length cX, .int .i64 ((d.all.length : Int) - (framesB (vs.map pay)).length), .int .i64 0]) ∧ IsAll d.all (vs.map pay) ∧ ER w' g S' (rcvD d (vs.map pay)) ∧ (∀ k, S' k → S k ∨ w.heap.size ≤ k) ∧ Keeps w w' S ∧ ArgL w' X vs) := by
  obtain ⟨A, c, E, cE, hB, ⟨h1, h1c, h1f⟩, _⟩ := h.at_
  have hbd := h.bd
  have hdl := hl
  have hall := refAll_any w A c d.all h1 h1c hl
  generalize hb : d.all = b at *
  rw [hu] at hB
  refine calls_of_CW Try.func77 rfl (by simp [Try.ntmps77]) ?_
  rw [Try.ntmps77]
  refine go_WalG (k := ?_)
  refine OW_callC Try.func65 (by kernel_rfl) rfl hall rfl ?_
  rintro en w1 ⟨X, cX, vs, rfl, ha, hr, hx⟩
  refine ⟨_, rfl, ?_⟩
  have hB1 := hB.ext hx
  have z1 := hx.size
  clear hB hall
  obtain ⟨N, hN⟩ : ∃ N, (framesB (vs.map pay)).length = N := ⟨_, rfl⟩
  have hNb : N ≤ b.length := by rw [← hN]; exact ha.1
  rw [hN]
  refine go_WalG (k := ?_)
  refine CW_cond _ rfl (fun hh => ?_) (fun hh => ?_)
  · have hpos := of_decide_eq_true hh
    clear hh
    refine go_WalG (k := ?_)
    refine OW_callC Try.func62 (by kernel_rfl) rfl (eCut_any w1 g S d (h.ext hx) N (by rw [hb]; omega)) rfl ?_
    rintro en w2 ⟨h1, h2, h3⟩
    refine ⟨_, h1, ?_⟩
    have z2 := h3.size
    refine go_WalG (k := ?_)
    refine bodyE_ret3 rfl (.slice X vs.length cX) (.int .i64 ((b.length : Int) - N)) (.int .i64 0) rfl rfl rfl ⟨X, cX, vs, more S w1 w2, by rw [hN], ha, ?_, fun k hk => ?_, (Keeps.of_ext hx S).trans' h3, ?_⟩
    · unfold rcvD
      rw [hN, hb, if_pos (by omega)]
      exact h2
    · rcases hk with hk | hk
      · exact .inl hk
      · exact .inr (by omega)
    · exact (hr.keeps h3 (fun ad ha hh => by have := (own_block hr.row ad ha).1; have := hbd _ hh; omega) (fun v hv k hk hh => by have := ((hr.each v hv).lt hk).1; have := hbd _ hh; omega)).arg
  · have hneg := of_decide_eq_false hh
    clear hh
    refine go_WalG (k := ?_)
    refine bodyE_ret3 rfl (.slice X vs.length cX) (.int .i64 ((b.length : Int) - N)) (.int .i64 0) rfl rfl rfl ⟨X, cX, vs, S, by rw [hN], ha, ?_, fun k hk => .inl hk, Keeps.of_ext hx S, hr.arg⟩
    unfold rcvD
    rw [hN, hb, if_neg (by omega)]
    exact h.ext hx
set_option maxHeartbeats 8000000 in
theorem refRecoverDown7_any (w : World) (g : Nat) (S : Nat → Prop) (d : DS) (h : ER w g S d) (hu : d.up = false) :
    Calls Try.prog 77 #[.pointer (some ⟨g, 0, none⟩)] w (RetV w (.tuple #[.slice none 0 0, .int .i64 0, .int .i64 60])) := by
  obtain ⟨A, c, E, cE, hB, ⟨h1, h1c, h1f⟩, _⟩ := h.at_
  rw [hu] at hB
  refine calls_of_CW Try.func77 rfl (by simp [Try.ntmps77]) ?_
  rw [Try.ntmps77]
  refine go_WalG (k := ?_)
  exact bodyE_ret3 rfl (.slice none 0 0) (.int .i64 0) (.int .i64 60) rfl rfl rfl ⟨rfl, Ext.rfl' w⟩
set_option maxHeartbeats 8000000 in
theorem vRecoverDown_any (w : World) (v g : Nat) (S : Nat → Prop) (d : DS) (h : DR w g S d) (hv : VB w v g) (hvS : ¬ S v) (hu : d.up = false) (hn : d.ws.length ≤ 1000000) :
    Calls Try.prog 34 #[.pointer (some ⟨v, 0, none⟩)] w (fun en w' => en = .returned (.tuple #[.slice none 0 0, .int .i64 0, .int .i64 60]) ∧ DR w' g (more S w w') d ∧ Keeps w w' S) := by
  have hbd := h.bd
  refine calls_of_LW Try.func34 rfl (by simp [Try.ntmps34]) ?_
  refine go_WalG (k := ?_)
  refine OW_alloc1 (.slice none 0 0) (fun w => by kernel_rfl) ?_
  intro w1 g2 hb2 hg2 hl2 hx1
  refine go_WalG (k := ?_)
  refine OW_callC Try.func45 (by kernel_rfl) rfl (ready_any w1 v g S d (h.ext hx1) (hv.ext hx1) hn) rfl ?_
  rintro en w2 ⟨h1, h2, h3⟩
  refine ⟨_, h1, ?_⟩
  rw [show (rdyE d, d).1 = 60 by show rdyE d = 60; unfold rdyE; rw [hu]; rfl]
  have hg2S : ¬ S g2 := fun hh => by have := hbd _ hh; omega
  have hb2' : Blk w2 g2 22 #[.slice none 0 0] := hb2.keeps h3 hg2S
  have z1 := hx1.size
  have z3 := h3.size
  have h2 : DR w2 g (more S w1 w2) d := h2
  refine go_WalG (k := ?_)
  refine OW_storeB one_bytess rfl (.slice none 0 0) rfl rfl hb2' Nat.one_pos ?_
  intro w4 hb4 hg4
  have hb4 : Blk w4 g2 22 #[.slice none 0 0] := hb4
  have hk4 : Keeps w2 w4 (· = g2) := Keeps.of_only hg4 rfl
  have z4 := hk4.size
  have hd4 := h2.keeps hk4 (fun k hk hh => by
    have hh : k = g2 := hh
    rcases hk with hk | hk
    · exact hg2S (hh ▸ hk)
    · omega)
  refine go_WalG (k := ?_)
  refine leave_of (bodyE_retc1tt rfl one_bytess rfl (hb4.cell 0) rfl rfl ⟨rfl, hd4.mono (fun k hk => ?_) (fun k hk => ?_), ?_⟩)
  · rcases hk with hk | hk
    · exact .inl hk
    · exact .inr ⟨by omega, by omega⟩
  · rcases hk with hk | hk
    · have := hbd k hk; omega
    · exact hk.2
  · exact ((Keeps.of_ext hx1 S).trans' h3).trans_more (hk4.mono fun k _ hk => by have hk : k = g2 := hk; exact .inr ⟨by omega, by omega⟩)
end Go.Proofs.Ytnfeibbnjdegfaa

/- The statements' acts on a wal: what comes in, whether they are too many. -/
namespace Go.Proofs.Ytnfeibbnjdegfaa
open Go Go.RowKit Go.ChangeShapes Go.WideShapes
set_option linter.unusedVariables false
set_option maxRecDepth 4000
theorem go_WalF {A B : Prop} (h : Held B → A := by
  intro hEnd
  repeat (first | refine OW_moveV (.int _ _) rfl ?_ | refine OW_moveV (.slice _ _ _) rfl ?_ | refine OW_moveV (.bool _) rfl ?_ | refine OW_moveV (.pointer _) rfl ?_ | refine OW_moveV (.string _) rfl ?_ | refine OW_moveV (.agg _) rfl ?_ | refine OW_moveV (.tuple _) rfl ?_ | refine OW_nil ?_ | refine thenE_normal ?_ | refine CW_seq ?_ | refine CW_region (by kernel_rfl) ?_ | refine OW_assignV (.int _ _) rfl ?_ | refine OW_assignV (.slice _ _ _) rfl ?_ | refine OW_assignV (.bool _) rfl ?_ | refine OW_assignV (.pointer _) rfl ?_ | refine OW_assignV (.string _) rfl ?_ | refine OW_assignV (.agg _) rfl ?_ | refine OW_assignV (.tuple _) rfl ?_ | refine OW_addI rfl rfl (by omega) ?_ | refine OW_subI rfl rfl (by omega) ?_ | refine OW_mulI rfl rfl (by omega) ?_ | refine OW_lss rfl rfl ?_ | refine OW_extract rfl rfl ?_ | refine OW_gtr rfl rfl ?_ | refine OW_leq rfl rfl ?_ | refine OW_geq rfl rfl ?_ | refine OW_eql rfl rfl ?_ | refine OW_neq rfl rfl ?_ | refine OW_not rfl ?_ | refine OW_pickT rfl _ rfl ?_ | refine OW_pickF rfl (.bool _) rfl ?_ | refine OW_pickB rfl rfl rfl ?_ | refine OW_move ?_ | refine OW_assign ?_ | refine OW_pass rfl ?_ | refine OW_take rfl ?_ | refine OW_lenS (by first | with_reducible exact und_bytes | with_reducible exact und_bytess) rfl ?_ | refine OW_convInt (by first | with_reducible exact und_u8 | with_reducible exact und_u64 | with_reducible exact und_int | with_reducible exact und_u32) (by first | with_reducible exact und_u8 | with_reducible exact und_u64 | with_reducible exact und_int | with_reducible exact und_u32) rfl ?_ | refine OW_add rfl rfl ?_ | refine OW_sub rfl rfl ?_ | refine OW_mul rfl rfl ?_ | refine OW_min2 rfl rfl ?_ | refine OW_max2 rfl rfl ?_ | refine OW_neg rfl ?_ | refine CW_block ?_ | refine CW_condT rfl ?_ | refine CW_condF rfl ?_ | refine CW_exit ?_ | refine CW_ret ?_ | refine CW_skip ?_ | refine LW_seq ?_ | refine LW_regC ?_ | refine LW_condC ?_ | refine LW_regF ?_ | refine LW_condF ?_ | refine FW_seq ?_ | refine FW_region (by kernel_rfl) ?_ | refine FW_block ?_ | refine FW_condT rfl ?_ | refine FW_condF rfl ?_ | refine FW_exit ?_ | refine FW_ret ?_ | refine FW_skip ?_ | refine LW_ret ?_ | refine LW_skip ?_ | refine thenE_exit ?_ | refine thenE_ret ?_ | refine inBlockE_normal ?_ | refine inBlockE_same ?_ | refine inBlockE_ret ?_ | refine inBlockE_ne (by rfl) ?_ | refine OW_eqlB (by with_reducible exact und_bool) rfl rfl ?_ | refine OW_neqB (by with_reducible exact und_bool) rfl rfl ?_ | refine OW_idxS (by with_reducible exact und_bytes) one_u8 rfl rfl _ rfl (by omega) ?_ | refine OW_idxS (by with_reducible exact und_bytess) one_bytes rfl rfl _ rfl (by omega) ?_ | refine OW_load1 (by first | with_reducible exact one_u8 | with_reducible exact one_bytes) rfl _ (by assumption) ?_ | refine OW_lenS (by with_reducible exact und_WAs) rfl ?_ | refine OW_idxN und_WAs el_WA rfl rfl _ rfl (by omega) ?_ | refine OW_fieldO fldo_WA3 rfl ?_ | refine OW_load1 (by with_reducible exact s_int) rfl _ (by assumption) ?_)
  exact hEnd.out) (k : B) : A := h ⟨k⟩
def kWAct : KD Try.prog 69 AD where
  n := 4
  hn := by kernel_rfl
  R := fun w cs f => ∃ A c, cs = acells f (.slice A f.B.length c) ∧ AOk w f A c
  ext := fun hx ⟨A, c, h1, h2⟩ => ⟨A, c, h1, h2.ext hx⟩
  opn := fun {H enc w fuel cs x} h hw => by
    obtain ⟨hl, hp⟩ := kd_parts Try.underlying69 h hw
    have hl : cs.length = 4 := by rw [hl]; kernel_rfl
    obtain ⟨a0, h0, r0⟩ := hp 0 _ rfl kI
    obtain ⟨a1, h1, r1⟩ := hp 1 _ rfl kI
    obtain ⟨a2, h2, r2⟩ := hp 2 _ rfl kI
    obtain ⟨a3, A, c, h3, ⟨r3, r3'⟩, b3⟩ := hp 3 _ rfl kBs
    refine ⟨⟨a0, a1, a2, a3⟩, A, c, ?_, b3, r3, Nat.le_trans r3 r3', r0, r1, r2⟩
    have e0 : (cs.drop 0).take 1 = [.int .i64 a0] := h0
    have e1 : (cs.drop (0 + 1)).take 1 = [.int .i64 a1] := h1
    have e2 : (cs.drop (0 + 1 + 1)).take 1 = [.int .i64 a2] := h2
    have e3 : (cs.drop (0 + 1 + 1 + 1)).take 1 = [.slice A a3.length c] := h3
    have e4 : cs.drop (0 + 1 + 1 + 1 + 1) = [] := List.drop_of_length_le (by omega)
    have := cut_cons cs 0 1
    rw [cut_cons cs (0 + 1) 1, cut_cons cs (0 + 1 + 1) 1, cut_cons cs (0 + 1 + 1 + 1) 1, e0, e1, e2, e3, e4, List.drop_zero] at this
    rw [this]
    simp [acells]
def kWActs : KD Try.prog 64 (List AD) := kSlice kWAct Try.underlying64 (by kernel_rfl) (of_decide_eq_true (by kernel_rfl))
abbrev WCs (w : World) (A : Option Addr) (l : List AD) : Prop := SlR 4 kWAct.R w A l
theorem WCs.ext {w w' : World} {A : Option Addr} {l : List AD} (h : WCs w A l) (hx : Ext w w') : WCs w' A l := fun i hi => by
  obtain ⟨ad, ce, e1, e2, e3, e4⟩ := h i hi
  exact ⟨ad, ce, e1, e2, e3.ext hx, kWAct.ext hx e4⟩
theorem WCs.get {w : World} {A : Option Addr} {l : List AD} (h : WCs w A l) {i : Nat} (hi : i < l.length) : ∃ ad A' c', A = some ad ∧ At w (ad.add (i * 4)) (acells l[i] (.slice A' (l[i]).B.length c')) ∧ AOk w l[i] A' c' := by
  obtain ⟨ad, ce, e1, e2, e3, A', c', e4, e5⟩ := h i hi
  subst e4
  exact ⟨ad, A', c', e1, e3, e5⟩
theorem und_WAs : Try.prog.underlying 64 = some (.slice 69) := Try.underlying64
theorem el_WA : ElT Try.prog 69 4 := ⟨by kernel_rfl⟩
theorem agg_WA : AggT Try.prog 69 4 (acells ⟨0, 0, 0, []⟩ (.slice none 0 0)) := ⟨⟨_, Try.underlying69, rfl⟩, by kernel_rfl, fun w => by kernel_rfl⟩
theorem fldo_WA0 : FldO Try.prog 69 0 0 := ⟨fun w a => by kernel_rfl⟩
theorem fldo_WA1 : FldO Try.prog 69 1 1 := ⟨fun w a => by kernel_rfl⟩
theorem fldo_WA2 : FldO Try.prog 69 2 2 := ⟨fun w a => by kernel_rfl⟩
theorem fldo_WA3 : FldO Try.prog 69 3 3 := ⟨fun w a => by kernel_rfl⟩
set_option maxHeartbeats 8000000 in
theorem great7_any (w : World) (A : Option Addr) (c : Nat) (l : List AD) (h : WCs w A l) (hl : l.length ≤ 140737488351232) : Calls Try.prog 39 #[.slice A l.length c] w (RetV w (.bool (decide (2000 < asum 40 l)))) := by
  refine calls_of_CW Try.func39 rfl (by simp [Try.ntmps39]) ?_
  rw [Try.ntmps39]
  refine go_WalF (k := ?_)
  refine CW_loop (fun e' w' => ∃ k : Nat, k ≤ l.length ∧ asum 40 (l.take k) ≤ 2000 ∧ e' 0 = .slice A l.length c ∧ e' 3 = .int .i64 (asum 40 (l.take k)) ∧ e' 4 = .int .i64 k ∧ w' = w) (fun e' _ => l.length - (intOf (e' 4)).toNat) ⟨0, Nat.zero_le _, Nat.zero_le _, rfl, rfl, rfl, rfl⟩ ?_
  rintro e' w' ⟨k, hk, hg, e0, e3, e4, rfl⟩
  rw [upd_self e0, upd_self e3, upd_self e4]
  refine go_WalF (k := ?_)
  refine CW_cond _ rfl (fun hh => ?_) (fun hh => ?_)
  · have hlt : k < l.length := by have := of_decide_eq_true hh; omega
    clear hh
    obtain ⟨ad, A', c', hA, hat, hok⟩ := h.get hlt
    subst hA
    have hs := asum_take_succ (k := 40) hlt
    have hcap := hok.small
    have hc2 : w'.cell? ((ad.add (k * 4)).add 3) = some (.slice A' (l[k]).B.length c') := hat 3 _ rfl
    refine go_WalF (k := ?_)
    refine CW_cond _ rfl (fun hh => ?_) (fun hh => ?_)
    · have h2 := of_decide_eq_true hh
      have h3 := asum_take_le 40 l (k + 1)
      refine go_WalF (k := ?_)
      exact bodyE_ret1 rfl (.bool (decide (2000 < asum 40 l))) (by rw [decide_eq_true (show 2000 < asum 40 l by omega)]; rfl) ⟨rfl, Ext.rfl' _⟩
    · have h2 := of_decide_eq_false hh
      clear hh
      refine go_WalF (k := ?_)
      refine ⟨⟨k + 1, by omega, by omega, rfl, ?_, rfl, rfl⟩, ?_⟩
      · show Value.int _ _ = _
        rw [hs]
        congr 1
      · show l.length - ((k : Int) + 1).toNat < l.length - (k : Int).toNat
        omega
  · have hge : k = l.length := by have := of_decide_eq_false hh; omega
    subst hge
    rw [List.take_of_length_le (Nat.le_refl _)] at hg
    refine go_WalF (k := ?_)
    exact bodyE_ret1 rfl (.bool (decide (2000 < asum 40 l))) (by rw [decide_eq_false (show ¬ 2000 < asum 40 l by omega)]; rfl) ⟨rfl, Ext.rfl' _⟩
end Go.Proofs.Ytnfeibbnjdegfaa

/- Walks: the statements' own functions on wals beside the reference's disk: recovers, one. -/
namespace Go.Proofs.Ytnfeibbnjdegfaa
open Go Go.RowKit
set_option linter.unusedVariables false
set_option maxRecDepth 4000
theorem go_WalH {A B : Prop} (h : Held B → A := by
  intro hEnd
  repeat (first | refine OW_eqlTr rfl rfl rfl ?_ | refine OW_moveV (.int _ _) rfl ?_ | refine OW_moveV (.slice _ _ _) rfl ?_ | refine OW_moveV (.bool _) rfl ?_ | refine OW_moveV (.pointer _) rfl ?_ | refine OW_moveV (.string _) rfl ?_ | refine OW_moveV (.agg _) rfl ?_ | refine OW_moveV (.tuple _) rfl ?_ | refine OW_nil ?_ | refine thenE_normal ?_ | refine CW_seq ?_ | refine CW_region (by kernel_rfl) ?_ | refine OW_assignV (.int _ _) rfl ?_ | refine OW_assignV (.slice _ _ _) rfl ?_ | refine OW_assignV (.bool _) rfl ?_ | refine OW_assignV (.pointer _) rfl ?_ | refine OW_assignV (.string _) rfl ?_ | refine OW_assignV (.agg _) rfl ?_ | refine OW_assignV (.tuple _) rfl ?_ | refine OW_addI rfl rfl (by omega) ?_ | refine OW_subI rfl rfl (by omega) ?_ | refine OW_mulI rfl rfl (by omega) ?_ | refine OW_lss rfl rfl ?_ | refine OW_extract rfl rfl ?_ | refine OW_gtr rfl rfl ?_ | refine OW_leq rfl rfl ?_ | refine OW_geq rfl rfl ?_ | refine OW_eql rfl rfl ?_ | refine OW_neq rfl rfl ?_ | refine OW_not rfl ?_ | refine OW_pickT rfl _ rfl ?_ | refine OW_pickF rfl (.bool _) rfl ?_ | refine OW_pickB rfl rfl rfl ?_ | refine OW_move ?_ | refine OW_assign ?_ | refine OW_pass rfl ?_ | refine OW_take rfl ?_ | refine OW_lenS (by first | with_reducible exact und_bytes | with_reducible exact und_bytess) rfl ?_ | refine OW_convInt (by first | with_reducible exact und_u8 | with_reducible exact und_u64 | with_reducible exact und_int | with_reducible exact und_u32) (by first | with_reducible exact und_u8 | with_reducible exact und_u64 | with_reducible exact und_int | with_reducible exact und_u32) rfl ?_ | refine OW_add rfl rfl ?_ | refine OW_sub rfl rfl ?_ | refine OW_mul rfl rfl ?_ | refine OW_min2 rfl rfl ?_ | refine OW_max2 rfl rfl ?_ | refine OW_neg rfl ?_ | refine CW_block ?_ | refine CW_condT rfl ?_ | refine CW_condF rfl ?_ | refine CW_exit ?_ | refine CW_ret ?_ | refine CW_skip ?_ | refine LW_seq ?_ | refine LW_regC ?_ | refine LW_condC ?_ | refine LW_regF ?_ | refine LW_condF ?_ | refine FW_seq ?_ | refine FW_region (by kernel_rfl) ?_ | refine FW_block ?_ | refine FW_condT rfl ?_ | refine FW_condF rfl ?_ | refine FW_exit ?_ | refine FW_ret ?_ | refine FW_skip ?_ | refine LW_ret ?_ | refine LW_skip ?_ | refine thenE_exit ?_ | refine thenE_ret ?_ | refine inBlockE_normal ?_ | refine inBlockE_same ?_ | refine inBlockE_ret ?_ | refine inBlockE_ne (by rfl) ?_ | refine OW_eqlB (by with_reducible exact und_bool) rfl rfl ?_ | refine OW_neqB (by with_reducible exact und_bool) rfl rfl ?_ | refine OW_idxS (by with_reducible exact und_bytes) one_u8 rfl rfl _ rfl (by omega) ?_ | refine OW_idxS (by with_reducible exact und_bytess) one_bytes rfl rfl _ rfl (by omega) ?_ | refine OW_load1 (by first | with_reducible exact one_u8 | with_reducible exact one_bytes) rfl _ (by assumption) ?_)
  exact hEnd.out) (k : B) : A := h ⟨k⟩
/-- A wal on the program's disk, and the reference's disk, apart from each other, in one state. -/
def TwoV (w0 w : World) (v g g2 : Nat) (d e : DS) : Prop :=
  ∃ S S2, DR w g S d ∧ ER w g2 S2 e ∧ VB w v g ∧ ¬ S v ∧ ¬ S2 v ∧ (∀ k, S k → ¬ S2 k) ∧ (∀ k, S k → w0.heap.size ≤ k) ∧ (∀ k, S2 k → w0.heap.size ≤ k) ∧ Ext w0 w
section
variable {w0 w w' : World} {v g g2 : Nat} {d e : DS} {f : FuncId} {args : Array Value}
theorem TwoV.to (h : TwoV w0 w v g g2 d e) : Ext w0 w := by obtain ⟨S, S2, _, _, _, _, _, _, _, _, h⟩ := h; exact h
theorem TwoV.ext (h : TwoV w0 w v g g2 d e) (hx : Ext w w') : TwoV w0 w' v g g2 d e := by
  obtain ⟨S, S2, h1, h2, h3, h4, h5, h6, h7, h8, h9⟩ := h
  exact ⟨S, S2, h1.ext hx, h2.ext hx, h3.ext hx, h4, h5, h6, h7, h8, h9.trans' hx⟩
/-- The program's disk turns: which blocks it has behind is told. -/
theorem twoV_d {S S2 S' : Nat → Prop} {d' : DS} (h1 : DR w g S d) (h2 : ER w g2 S2 e) (h3 : VB w v g) (h4 : ¬ S v) (h5 : ¬ S2 v) (h6 : ∀ k, S k → ¬ S2 k) (h7 : ∀ k, S k → w0.heap.size ≤ k) (h8 : ∀ k, S2 k → w0.heap.size ≤ k) (h9 : Ext w0 w)
    (q1 : DR w' g S' d') (q2 : ∀ k, S' k → S k ∨ w.heap.size ≤ k) (q3 : Keeps w w' S) : ER w' g2 S2 e ∧ VB w' v g ∧ ¬ S' v ∧ (∀ k, S' k → ¬ S2 k) ∧ (∀ k, S' k → w0.heap.size ≤ k) ∧ Ext w0 w' :=
  ⟨h2.keeps q3 (fun k hk hs => h6 k hs hk), h3.keeps q3 h4, fun hh => by rcases q2 _ hh with hh | hh; exact h4 hh; have := h3.lt; omega,
   fun k hk hs => by rcases q2 k hk with hh | hh; exact h6 k hh hs; have := h2.bd k hs; omega, fun k hk => by rcases q2 k hk with hh | hh; exact h7 k hh; have := h9.size; omega, q3.ext h9 h7⟩
theorem TwoV.prog (x : Int × DS) (h : TwoV w0 w v g g2 d e) (hc : ∀ S, DR w g S d → VB w v g → ¬ S v → (∀ k, S k → w0.heap.size ≤ k) → Calls Try.prog f args w (MP w g S x)) : Calls Try.prog f args w (fun en w' => en = .returned (.int .i64 x.1) ∧ TwoV w0 w' v g g2 x.2 e) := by
  obtain ⟨S, S2, h1, h2, h3, h4, h5, h6, h7, h8, h9⟩ := h
  refine (hc S h1 h3 h4 h7).mono ?_
  rintro en w' ⟨q1, q2, q3⟩
  obtain ⟨p1, p2, p3, p4, p5, p6⟩ := twoV_d h1 h2 h3 h4 h5 h6 h7 h8 h9 q2 (fun k hk => by rcases hk with hk | hk; exact .inl hk; exact .inr hk.1) q3
  exact ⟨q1, more S w w', S2, q2, p1, p2, p3, h5, p4, p5, h8, p6⟩
theorem TwoV.ref (x : Int × DS) (h : TwoV w0 w v g g2 d e) (hc : ∀ S2, ER w g2 S2 e → (∀ k, S2 k → w0.heap.size ≤ k) → Calls Try.prog f args w (EP w g2 S2 x)) : Calls Try.prog f args w (fun en w' => en = .returned (.int .i64 x.1) ∧ TwoV w0 w' v g g2 d x.2) := by
  obtain ⟨S, S2, h1, h2, h3, h4, h5, h6, h7, h8, h9⟩ := h
  refine (hc S2 h2 h8).mono ?_
  rintro en w' ⟨q1, q2, q3⟩
  refine ⟨q1, S, more S2 w w', h1.keeps q3 (fun k hk hs => h6 k hk hs), q2, h3.keeps q3 h5, h4, fun hh => ?_, fun k hk hs => ?_, h7, fun k hk => ?_, q3.ext h9 h8⟩
  · rcases hh with hh | hh
    · exact h5 hh
    · have := h3.lt; omega
  · rcases hs with hs | hs
    · exact h6 k hk hs
    · have := h1.bd k hk; omega
  · rcases hk with hk | hk
    · exact h8 k hk
    · have := h9.size; omega
theorem TwoV.useD {R : Ending → World → Prop} (h : TwoV w0 w v g g2 d e) (hc : ∀ S, DR w g S d → VB w v g → Calls Try.prog f args w R) : Calls Try.prog f args w R := by
  obtain ⟨S, S2, h1, h2, h3, _⟩ := h; exact hc S h1 h3
theorem TwoV.useE {R : Ending → World → Prop} (h : TwoV w0 w v g g2 d e) (hc : ∀ S, ER w g2 S e → Calls Try.prog f args w R) : Calls Try.prog f args w R := by
  obtain ⟨S, S2, h1, h2, _⟩ := h; exact hc S2 h2
end
theorem rcv_len {d : DS} {ps : List (List UInt8)} : (rcvD d ps).all.length ≤ d.all.length ∧ (rcvD d ps).ws.length ≤ d.ws.length := by
  unfold rcvD dCut
  repeat' split
  all_goals simp [DS.all]
  all_goals omega
set_option maxHeartbeats 8000000 in
theorem recovers_any (w0 w : World) (v g g2 : Nat) (d : DS) (h : TwoV w0 w v g g2 d d) (hl : d.all.length ≤ 50000) (hn : d.ws.length ≤ 50000) :
    Calls Try.prog 67 #[.pointer (some ⟨v, 0, none⟩), .pointer (some ⟨g2, 0, none⟩)] w (fun en w' => en = .returned (.bool true) ∧ ∃ d', TwoV w0 w' v g g2 d' d' ∧ d'.all.length ≤ d.all.length ∧ d'.ws.length ≤ d.ws.length) := by
  obtain ⟨S, S2, h1, h2, h3, h4, h5, h6, h7, h8, h9⟩ := h
  have bd1 := h1.bd
  have bd2 := h2.bd
  cases hu : d.up with
  | false =>
    refine calls_of_CW Try.func67 rfl (by simp [Try.ntmps67]) ?_
    rw [Try.ntmps67]
    refine go_WalH (k := ?_)
    refine OW_callC Try.func34 (by kernel_rfl) rfl (vRecoverDown_any w v g S d h1 h3 h4 hu (by omega)) rfl ?_
    rintro en w1 ⟨rfl, q2, q3⟩
    refine ⟨_, rfl, ?_⟩
    obtain ⟨p1, p2, p3, p4, p5, p6⟩ := twoV_d h1 h2 h3 h4 h5 h6 h7 h8 h9 q2 (fun k hk => by rcases hk with hk | hk; exact .inl hk; exact .inr hk.1) q3
    refine go_WalH (k := ?_)
    refine OW_callV Try.func77 (by kernel_rfl) rfl (refRecoverDown7_any w1 g2 S2 d p1 hu) rfl ?_
    intro w2 hx2
    refine go_WalH (k := ?_)
    refine OW_callV Try.func40 (by kernel_rfl) rfl (refLSame_any w2 none none 0 0 [] [] ⟨Rd.nil _ _, fun v hv => by simp at hv⟩ ⟨Rd.nil _ _, fun v hv => by simp at hv⟩ (by simp) (by simp) (by simp)) rfl ?_
    intro w3 hx3
    rw [show (([] : List BV).map pay == ([] : List BV).map pay) = true from rfl]
    have hx13 := hx2.trans' hx3
    refine go_WalH (k := ?_)
    exact bodyE_ret1 rfl (.bool true) rfl ⟨rfl, d, ⟨_, S2, q2.ext hx13, p1.ext hx13, p2.ext hx13, p3, h5, p4, p5, h8, p6.trans' hx13⟩, Nat.le_refl _, Nat.le_refl _⟩
  | true =>
    refine calls_of_CW Try.func67 rfl (by simp [Try.ntmps67]) ?_
    rw [Try.ntmps67]
    refine go_WalH (k := ?_)
    refine OW_callC Try.func34 (by kernel_rfl) rfl (vRecover_any w v g S d h1 h3 h4 hu (by omega) (by omega)) rfl ?_
    rintro en w1 ⟨A, vs, S', rfl, ha, q2, qS, q3, hr⟩
    refine ⟨_, rfl, ?_⟩
    obtain ⟨p1, p2, p3, p4, p5, p6⟩ := twoV_d h1 h2 h3 h4 h5 h6 h7 h8 h9 q2 qS q3
    have hps : ∀ qs, IsAll d.all qs → qs = vs.map pay := fun qs h => isAll_uniq h ha
    have hpn := frames12 (vs.map pay)
    have hp1 := ha.1
    have hp2 := ha.2.2.2
    rw [List.length_map] at hpn
    refine go_WalH (k := ?_)
    refine OW_callC Try.func77 (by kernel_rfl) rfl (refRecover7_any w1 g2 S2 d p1 hu (by omega)) rfl ?_
    rintro en w2 ⟨X, cX, us, S2', rfl, hb, r2, rS, r3, hrX⟩
    refine ⟨_, rfl, ?_⟩
    have hus := hps _ hb
    rw [hus] at r2
    have bS' := q2.bd
    have hargA : ArgL w2 A vs := hr w2 (r3.mono fun k hk hh => .inr (bd2 k hh))
    have hvb := p2.lt
    rw [hus]
    have hlu : us.length = vs.length := by simpa using congrArg List.length hus
    have hcl : ∀ ws : List BV, (∀ p ∈ ws.map pay, p.length ≤ 65536) → ∀ v ∈ ws, v.2.2.length ≤ 1000000 := fun ws h v hv => by
      have := h _ (List.mem_map.2 ⟨v, hv, rfl⟩)
      have : (pay v).length = v.2.2.length := rfl
      omega
    refine go_WalH (k := ?_)
    refine OW_callV Try.func40 (by kernel_rfl) rfl (refLSame_any w2 A X vs.length cX vs us hargA hrX (by omega) (hcl vs hp2) (hcl us (by rw [hus]; exact hp2))) rfl ?_
    intro w3 hx3
    rw [hus, beq_self_eq_true]
    refine go_WalH (k := ?_)
    have hrl := @rcv_len d (vs.map pay)
    exact bodyE_ret1 rfl (.bool true) rfl ⟨rfl, rcvD d (vs.map pay), ⟨S', S2', (q2.keeps r3 (fun k hk hs => p4 k hk hs)).ext hx3, r2.ext hx3, (p2.keeps r3 h5).ext hx3, p3, fun hh => by rcases rS _ hh with hh | hh; exact h5 hh; omega, fun k hk hs => by rcases rS k hs with hh | hh; exact p4 k hk hh; have := bS' k hk; omega, p5, fun k hk => by rcases rS k hk with hh | hh; exact h8 k hh; have := p6.size; omega, (r3.ext p6 h8).trans' hx3⟩, hrl⟩
end Go.Proofs.Ytnfeibbnjdegfaa

/- Walk: the statements' 'one' on a wal beside the reference's disk. -/
namespace Go.Proofs.Ytnfeibbnjdegfaa
open Go Go.RowKit
set_option linter.unusedVariables false
set_option maxRecDepth 4000
theorem go_WalI {A B : Prop} (h : Held B → A := by
  intro hEnd
  repeat (first | refine OW_fieldB fldo_WA0 rfl ?_ | refine OW_fieldB fldo_WA1 rfl ?_ | refine OW_fieldB fldo_WA2 rfl ?_ | refine OW_fieldB fldo_WA3 rfl ?_ | refine OW_eqlTr rfl rfl rfl ?_ | refine OW_moveV (.int _ _) rfl ?_ | refine OW_moveV (.slice _ _ _) rfl ?_ | refine OW_moveV (.bool _) rfl ?_ | refine OW_moveV (.pointer _) rfl ?_ | refine OW_moveV (.string _) rfl ?_ | refine OW_moveV (.agg _) rfl ?_ | refine OW_moveV (.tuple _) rfl ?_ | refine OW_nil ?_ | refine thenE_normal ?_ | refine CW_seq ?_ | refine CW_region (by kernel_rfl) ?_ | refine OW_assignV (.int _ _) rfl ?_ | refine OW_assignV (.slice _ _ _) rfl ?_ | refine OW_assignV (.bool _) rfl ?_ | refine OW_assignV (.pointer _) rfl ?_ | refine OW_assignV (.string _) rfl ?_ | refine OW_assignV (.agg _) rfl ?_ | refine OW_assignV (.tuple _) rfl ?_ | refine OW_addI rfl rfl (by omega) ?_ | refine OW_subI rfl rfl (by omega) ?_ | refine OW_mulI rfl rfl (by omega) ?_ | refine OW_lss rfl rfl ?_ | refine OW_extract rfl rfl ?_ | refine OW_gtr rfl rfl ?_ | refine OW_leq rfl rfl ?_ | refine OW_geq rfl rfl ?_ | refine OW_eql rfl rfl ?_ | refine OW_neq rfl rfl ?_ | refine OW_not rfl ?_ | refine OW_pickT rfl _ rfl ?_ | refine OW_pickF rfl (.bool _) rfl ?_ | refine OW_pickB rfl rfl rfl ?_ | refine OW_move ?_ | refine OW_assign ?_ | refine OW_pass rfl ?_ | refine OW_take rfl ?_ | refine OW_lenS (by first | with_reducible exact und_bytes | with_reducible exact und_bytess) rfl ?_ | refine OW_convInt (by first | with_reducible exact und_u8 | with_reducible exact und_u64 | with_reducible exact und_int | with_reducible exact und_u32) (by first | with_reducible exact und_u8 | with_reducible exact und_u64 | with_reducible exact und_int | with_reducible exact und_u32) rfl ?_ | refine OW_add rfl rfl ?_ | refine OW_sub rfl rfl ?_ | refine OW_mul rfl rfl ?_ | refine OW_min2 rfl rfl ?_ | refine OW_max2 rfl rfl ?_ | refine OW_neg rfl ?_ | refine CW_block ?_ | refine CW_condT rfl ?_ | refine CW_condF rfl ?_ | refine CW_exit ?_ | refine CW_ret ?_ | refine CW_skip ?_ | refine LW_seq ?_ | refine LW_regC ?_ | refine LW_condC ?_ | refine LW_regF ?_ | refine LW_condF ?_ | refine FW_seq ?_ | refine FW_region (by kernel_rfl) ?_ | refine FW_block ?_ | refine FW_condT rfl ?_ | refine FW_condF rfl ?_ | refine FW_exit ?_ | refine FW_ret ?_ | refine FW_skip ?_ | refine LW_ret ?_ | refine LW_skip ?_ | refine thenE_exit ?_ | refine thenE_ret ?_ | refine inBlockE_normal ?_ | refine inBlockE_same ?_ | refine inBlockE_ret ?_ | refine inBlockE_ne (by rfl) ?_ | refine OW_eqlB (by with_reducible exact und_bool) rfl rfl ?_ | refine OW_neqB (by with_reducible exact und_bool) rfl rfl ?_ | refine OW_idxS (by with_reducible exact und_bytes) one_u8 rfl rfl _ rfl (by omega) ?_ | refine OW_idxS (by with_reducible exact und_bytess) one_bytes rfl rfl _ rfl (by omega) ?_ | refine OW_load1 (by first | with_reducible exact one_u8 | with_reducible exact one_bytes) rfl _ (by assumption) ?_ | refine OW_load1 s_int rfl _ (by assumption) ?_ | refine OW_load1 one_bytes rfl _ (by assumption) ?_)
  exact hEnd.out) (k : B) : A := h ⟨k⟩
theorem dLen_write (d : DS) (b : List UInt8) : (dWrite d b).2.all.length ≤ d.all.length + b.length ∧ (dWrite d b).2.ws.length ≤ d.ws.length + 1 := by
  unfold dWrite
  repeat' split
  all_goals simp [DS.all]
  all_goals omega
theorem dLen_sync (d : DS) : (dSync d).2.all.length ≤ d.all.length ∧ (dSync d).2.ws.length ≤ d.ws.length := by
  unfold dSync
  repeat' split
  all_goals simp [DS.all]
theorem dLen_crash (d : DS) (n m : Int) : (dCrash d n m).2.all.length ≤ d.all.length ∧ (dCrash d n m).2.ws.length ≤ d.ws.length := by
  unfold dCrash
  repeat' split
  all_goals simp [DS.all]
  all_goals omega
theorem dLen_start (d : DS) : (dStart d).2.all.length ≤ d.all.length ∧ (dStart d).2.ws.length ≤ d.ws.length := by
  unfold dStart
  repeat' split
  all_goals simp [DS.all]
/-- What 'one' comes to. -/
def One7 (w0 : World) (v g g2 : Nat) (n m : Nat) : Ending → World → Prop := fun en w' => en = .returned (.bool true) ∧ ∃ d', TwoV w0 w' v g g2 d' d' ∧ d'.all.length ≤ n ∧ d'.ws.length ≤ m
section
variable {w0 w w' : World} {v g g2 : Nat} {d e : DS} {f : FuncId} {args : Array Value}
theorem twoV_e {S S2 : Nat → Prop} {x : Int × DS} {en : Ending} (h1 : DR w g S d) (h2 : ER w g2 S2 e) (h3 : VB w v g) (h4 : ¬ S v) (h5 : ¬ S2 v) (h6 : ∀ k, S k → ¬ S2 k) (h7 : ∀ k, S k → w0.heap.size ≤ k) (h8 : ∀ k, S2 k → w0.heap.size ≤ k) (h9 : Ext w0 w) (hm : EP w g2 S2 x en w') :
    DR w' g S d ∧ VB w' v g ∧ ¬ more S2 w w' v ∧ (∀ k, S k → ¬ more S2 w w' k) ∧ (∀ k, more S2 w w' k → w0.heap.size ≤ k) ∧ Ext w0 w' := by
  obtain ⟨q1, q2, q3⟩ := hm
  refine ⟨h1.keeps q3 (fun k hk hs => h6 k hk hs), h3.keeps q3 h5, fun hh => ?_, fun k hk hs => ?_, fun k hk => ?_, q3.ext h9 h8⟩
  · rcases hh with hh | hh
    · exact h5 hh
    · have := h3.lt; omega
  · rcases hs with hs | hs
    · exact h6 k hk hs
    · have := h1.bd k hk; omega
  · rcases hk with hk | hk
    · exact h8 k hk
    · have := h9.size; omega
/-- Between the program's call and the reference's. -/
structure Mid7 (w0 w : World) (v g g2 g3 : Nat) (S2 : Nat → Prop) (cs : Array Value) (d e : DS) : Prop where
  at_ : ∃ S, DR w g S d ∧ ER w g2 S2 e ∧ VB w v g ∧ ¬ S v ∧ (∀ k, S k → ¬ S2 k) ∧ (∀ k, S k → w0.heap.size ≤ k)
  lo2 : ∀ k, S2 k → w0.heap.size ≤ k
  nv : ¬ S2 v
  ext : Ext w0 w
  blk : Blk w g3 69 cs
theorem Mid7.fin {g3 : Nat} {S2 : Nat → Prop} {cs : Array Value} {x : Int × DS} {en : Ending} (h : Mid7 w0 w v g g2 g3 S2 cs d e) (hm : EP w g2 S2 x en w') : TwoV w0 w' v g g2 d x.2 := by
  obtain ⟨S, h1, h2, h3, h4, h6, h7⟩ := h.at_
  obtain ⟨q1, q2, q3, q4, q5, q6⟩ := twoV_e h1 h2 h3 h4 h.nv h6 h7 h.lo2 h.ext hm
  exact ⟨S, more S2 w w', q1, hm.2.1, q2, h4, q3, q4, h7, q5, q6⟩
end
set_option maxHeartbeats 8000000 in
theorem one7_any (w0 w : World) (v g g2 : Nat) (d : DS) (h : TwoV w0 w v g g2 d d) (f : AD) (A : Option Addr) (c : Nat) (hok : AOk w0 f A c) (hbl : f.B.length ≤ 2000) (hl : d.all.length ≤ 40000) (hn : d.ws.length ≤ 40000) :
    Calls Try.prog 43 #[.pointer (some ⟨v, 0, none⟩), .pointer (some ⟨g, 0, none⟩), .pointer (some ⟨g2, 0, none⟩), .agg (acells f (.slice A f.B.length c)).toArray] w (One7 w0 v g g2 (d.all.length + f.B.length + 12) (d.ws.length + 1)) := by
  obtain ⟨S, S2, h1, h2, h3, h4, h5, h6, h7, h8, h9⟩ := h
  have bd1 := h1.bd
  have bd2 := h2.bd
  have hvl := h3.lt
  refine calls_of_CW Try.func43 rfl (by simp [Try.ntmps43]) ?_
  rw [Try.ntmps43]
  refine go_WalI (k := ?_)
  refine OW_box _ rfl ?_
  intro w1 g3 hb1 hg3 hl3 hx
  have hb1 : Blk w1 g3 69 (acells f (.slice A f.B.length c)).toArray := hb1
  have hx01 := h9.trans' hx
  have hR1 := h1.ext hx
  have hE1 := h2.ext hx
  have hV1 := h3.ext hx
  have n1 : ¬ S g3 := fun hh => by have := bd1 _ hh; omega
  have n2 : ¬ S2 g3 := fun hh => by have := bd2 _ hh; omega
  have mid : ∀ {w2 w3 : World} {x : Int × DS} {en : Ending}, Ext w1 w2 → MP w2 g S x en w3 → Mid7 w0 w3 v g g2 g3 S2 (acells f (.slice A f.B.length c)).toArray x.2 d := fun {w2 w3 x en} hx2 hm => by
    obtain ⟨p1, p2, p3, p4, p5, p6⟩ := twoV_d (hR1.ext hx2) (hE1.ext hx2) (hV1.ext hx2) h4 h5 h6 h7 h8 (hx01.trans' hx2) hm.2.1 (fun k hk => by rcases hk with hk | hk; exact .inl hk; exact .inr hk.1) hm.2.2
    exact ⟨⟨_, hm.2.1, p1, p2, p3, p4, p5⟩, h8, h5, p6, (hb1.ext hx2).keeps hm.2.2 n1⟩
  have two1 : TwoV w0 w1 v g g2 d d := ⟨S, S2, hR1, hE1, hV1, h4, h5, h6, h7, h8, hx01⟩
  have m0 : w1.cell? ⟨g3, 0, none⟩ = some (.int .i64 f.kind) := hb1.cell 0
  have m1 : w1.cell? ⟨g3, 1, none⟩ = some (.int .i64 f.n) := hb1.cell 1
  have m2 : w1.cell? ⟨g3, 2, none⟩ = some (.int .i64 f.m) := hb1.cell 2
  have m3 : w1.cell? ⟨g3, 3, none⟩ = some (.slice A f.B.length c) := hb1.cell 3
  clear h1 h2 h3
  refine go_WalI (k := ?_)
  refine CW_meet (fun e' w' => e' 0 = .pointer (some ⟨v, 0, none⟩) ∧ e' 1 = .pointer (some ⟨g, 0, none⟩) ∧ e' 2 = .pointer (some ⟨g2, 0, none⟩) ∧ e' 7 = .pointer (some ⟨g3, 0, none⟩) ∧ e' 18 = .int .i64 f.kind ∧ e' 19 = .bool (decide (f.kind = 0 ∨ f.kind = 1 ∨ f.kind = 2)) ∧ w' = w1) ?_ ?_
  · refine CW_cond _ rfl (fun hh => ?_) (fun hh => ?_)
    · have h0 : f.kind = 0 := by simpa using hh
      rw [hh]
      refine go_WalI (k := ?_)
      exact ⟨rfl, rfl, rfl, rfl, rfl, rfl, by rw [decide_eq_true (show f.kind = 0 ∨ f.kind = 1 ∨ f.kind = 2 from .inl h0)]; rfl, rfl⟩
    have h0 : ¬ f.kind = 0 := by simpa using hh
    refine go_WalI (k := ?_)
    refine CW_cond _ rfl (fun hh => ?_) (fun hh => ?_)
    · have h1 : f.kind = 1 := by simpa using hh
      rw [hh]
      refine go_WalI (k := ?_)
      exact ⟨rfl, rfl, rfl, rfl, rfl, rfl, by rw [decide_eq_true (show f.kind = 0 ∨ f.kind = 1 ∨ f.kind = 2 from .inr (.inl h1))]; rfl, rfl⟩
    have h1 : ¬ f.kind = 1 := by simpa using hh
    refine go_WalI (k := ?_)
    refine ⟨rfl, rfl, rfl, rfl, rfl, rfl, ?_, rfl⟩
    show Value.bool _ = _
    by_cases h2 : f.kind = 2 <;> simp [h0, h1, h2]
  rintro e2 w2 ⟨q0, q1, q2, qA, qK, qB, rfl⟩
  rw [upd_self q0, upd_self q1, upd_self q2, upd_self qA, upd_self qK, upd_self qB]
  refine go_WalI (k := ?_)
  refine CW_cond _ rfl (fun hh => ?_) (fun hh => ?_)
  · clear hh
    have hdl := dLen_write d (frameB f.B)
    rw [frameB_length] at hdl
    refine go_WalI (k := ?_)
    refine OW_callBs Try.func57 (by kernel_rfl) rfl (refCopy_any _ A f.B c (hok.bs.ext hx01) (by omega)) rfl ?_
    intro w3 X cX hX
    have hbX := own_block hX.own
    have hs1 := hx.size
    have oX : ∀ ad, X = some ad → ¬ S ad.block ∧ ¬ S2 ad.block := fun ad ha => ⟨fun hh => by have := bd1 _ hh; have := (hbX ad ha).1; omega, fun hh => by have := bd2 _ hh; have := (hbX ad ha).1; omega⟩
    refine go_WalI (k := ?_)
    refine OW_callC Try.func17 (by kernel_rfl) rfl (vAdd_any w3 v g S d (hR1.ext hX.ext) (hV1.ext hX.ext) h4 (by omega) X cX f.B (fun u hu => own_rd (own_keeps hX.own hu (fun ad ha => (oX ad ha).1))) (by omega)) rfl ?_
    intro en w4 hm
    obtain ⟨p1, p2, p3, p4, p5, p6⟩ := twoV_d (hR1.ext hX.ext) (hE1.ext hX.ext) (hV1.ext hX.ext) h4 h5 h6 h7 h8 (hx01.trans' hX.ext) hm.2.1 (fun k hk => by rcases hk with hk | hk; exact .inl hk; exact .inr hk.1) hm.2.2
    have hR4 := hm.2.1
    have oX4 := own_keeps hX.own hm.2.2 (fun ad ha => (oX ad ha).1)
    have hb4 := (hb1.ext hX.ext).keeps hm.2.2 n1
    have oS4 : ∀ ad, X = some ad → ¬ more S w3 w4 ad.block := fun ad ha hh => by
      rcases hh with hh | hh
      · exact (oX ad ha).1 hh
      · have := (hbX ad ha).2; omega
    have s34 := hm.2.2.size
    refine ⟨_, hm.1, ?_⟩
    have m34 : w4.cell? ⟨g3, 3, none⟩ = some (.slice A f.B.length c) := hb4.cell 3
    generalize more S w3 w4 = Sa at *
    clear hm
    refine go_WalI (k := ?_)
    refine OW_callC Try.func66 (by kernel_rfl) rfl (refAdd7_any w4 g2 S2 d p1 (by omega) A c f.B (hok.bs.ext p6) ⟨by omega, by omega⟩) rfl ?_
    intro en w5 hm
    obtain ⟨r1, r2, r3, r4, r5, r6⟩ := twoV_e hR4 p1 p2 p3 h5 p4 p5 h8 p6 hm
    have hE5 := hm.2.1
    have oX5 := own_keeps oX4 hm.2.2 (fun ad ha => (oX ad ha).2)
    have hb5 := hb4.keeps hm.2.2 n2
    have oS5 : ∀ ad, X = some ad → ¬ more S2 w4 w5 ad.block := fun ad ha hh => by
      rcases hh with hh | hh
      · exact (oX ad ha).2 hh
      · have := (hbX ad ha).2; omega
    have m35 : w5.cell? ⟨g3, 3, none⟩ = some (.slice A f.B.length c) := hb5.cell 3
    refine ⟨_, hm.1, ?_⟩
    generalize more S2 w4 w5 = Sb at *
    generalize dWrite d (frameB f.B) = D at *
    clear hm hb4 p1 hR4 m34 hb5
    refine go_WalI (k := ?_)
    refine OW_callV Try.func32 (by kernel_rfl) rfl (refSame_any w5 X A f.B f.B cX c (own_rd oX5) (hok.bs.ext r6) (by omega)) rfl ?_
    intro w6 hx6
    rw [beq_self_eq_true]
    have oX6 := own_ext oX5 hx6
    have hx06 := r6.trans' hx6
    have hs2 := hx01.size
    refine go_WalI (k := ?_)
    refine CW_loop (fun e' w' => ∃ (k : Nat) (zs : List UInt8), k ≤ f.B.length ∧ zs.length = f.B.length ∧ e' 9 = .slice X f.B.length cX ∧ e' 12 = .int .i64 k ∧ e' 11 = .bool true ∧ w'.ownsRow w2.heap.size 5 1 (.slice X f.B.length cX) f.B.length (zs.map bv) ∧ w6.grownBy w' (Value.ownBlock (.slice X f.B.length cX))) (fun e' _ => f.B.length - (intOf (e' 12)).toNat) ?_ ?_
    · exact ⟨0, f.B, Nat.zero_le _, rfl, rfl, rfl, rfl, oX6, World.grownBy.refl _ _⟩
    rintro ea wa ⟨ka, za, hak, haz, has, hai, qa_11, hao, hag⟩
    rw [upd_self has, upd_self hai, upd_self qa_11]
    refine go_WalI (k := ?_)
    refine CW_cond _ rfl (fun hh => ?_) (fun _ => ?_)
    · have hlt : ka < f.B.length := by simpa using hh
      obtain ⟨g, cur, hA, hg, _⟩ := own_blk hao (by omega)
      subst hA
      have hcell := inc_cell hao haz hlt
      have hst := inc_step hao haz hlt (za[ka]'(by omega) + 1)
      refine go_WalI (k := ?_)
      rw [inc_u8]
      refine go_WalI (k := ?_)
      rw [add0] at hcell ⊢
      refine OW_store1 one_u8 rfl (bv (za[ka]'(by omega) + 1)) (bv (za[ka]'(by omega))) rfl rfl hcell (hao.frozenAt ka) ?_
      refine go_WalI (k := ?_)
      refine ⟨⟨ka + 1, _, by omega, by simp [haz], rfl, rfl, rfl, hst.1, grown_trans' hag hst.2⟩, ?_⟩
      show f.B.length - ((ka : Int) + 1).toNat < f.B.length - (ka : Int).toNat
      omega
    refine go_WalI (k := ?_)
    have hKa : Keeps w6 wa (fun k => ∃ ad, X = some ad ∧ ad.block = k) := Keeps.of_grown hag (fun g hg => by
      cases X with
      | none => cases hg
      | some ad => cases hg; exact ⟨ad, rfl, rfl⟩)
    exact bodyE_ret1 rfl (.bool true) rfl ⟨rfl, D.2, ⟨Sa, Sb, (r1.ext hx6).keeps hKa (fun k hk ⟨ad, ha, hh⟩ => oS4 ad ha (hh ▸ hk)), (hE5.ext hx6).keeps hKa (fun k hk ⟨ad, ha, hh⟩ => oS5 ad ha (hh ▸ hk)), (r2.ext hx6).keeps hKa (fun ⟨ad, ha, hh⟩ => by have := (hbX ad ha).1; omega), p3, r3, r4, p5, r5, hKa.ext hx06 (fun k ⟨ad, ha, hh⟩ => by have := (hbX ad ha).1; omega)⟩, by omega, by omega⟩
  clear hh
  refine go_WalI (k := ?_)
  refine CW_cond _ rfl (fun hh => ?_) (fun hh => ?_)
  · clear hh
    have hdl := dLen_sync d
    refine go_WalI (k := ?_)
    refine OW_callC Try.func20 (by kernel_rfl) rfl (vSync_any w2 v g S d hR1 hV1 h4 (by omega) (by omega)) rfl ?_
    intro en w4 hm
    have hM := mid (Ext.rfl' _) hm
    refine ⟨_, hm.1, ?_⟩
    have hE4 : ER w4 g2 S2 d := by obtain ⟨_, _, q, _⟩ := hM.at_; exact q
    clear hm
    refine go_WalI (k := ?_)
    refine OW_callC Try.func59 (by kernel_rfl) rfl (eSync_any w4 g2 S2 d hE4) rfl ?_
    intro en w5 hm
    have hF := hM.fin hm
    refine ⟨_, hm.1, ?_⟩
    refine go_WalI (k := ?_)
    exact bodyE_ret1 rfl (.bool true) rfl ⟨rfl, _, hF, by omega, by omega⟩
  clear hh
  refine go_WalI (k := ?_)
  refine CW_cond _ rfl (fun hh => ?_) (fun hh => ?_)
  · clear hh
    have hdl := dLen_crash d f.n f.m
    refine go_WalI (k := ?_)
    refine OW_callC Try.func25 (by kernel_rfl) rfl (dCrash_any w2 g S d hR1 (by omega) (by omega) f.n f.m hok.n hok.m) rfl ?_
    intro en w4 hm
    have hM := mid (Ext.rfl' _) hm
    refine ⟨_, hm.1, ?_⟩
    have hE4 : ER w4 g2 S2 d := by obtain ⟨_, _, q, _⟩ := hM.at_; exact q
    have m14 : w4.cell? ⟨g3, 1, none⟩ = some (.int .i64 f.n) := hM.blk.cell 1
    have m24 : w4.cell? ⟨g3, 2, none⟩ = some (.int .i64 f.m) := hM.blk.cell 2
    clear hm
    refine go_WalI (k := ?_)
    refine OW_callC Try.func60 (by kernel_rfl) rfl (eCrash_any w4 g2 S2 d hE4 f.n f.m hok.n hok.m (by omega) (by omega)) rfl ?_
    intro en w5 hm
    have hF := hM.fin hm
    refine ⟨_, hm.1, ?_⟩
    refine go_WalI (k := ?_)
    exact bodyE_ret1 rfl (.bool true) rfl ⟨rfl, _, hF, by omega, by omega⟩
  clear hh
  refine go_WalI (k := ?_)
  refine CW_meet (fun e' w' => e' 0 = .pointer (some ⟨v, 0, none⟩) ∧ e' 1 = .pointer (some ⟨g, 0, none⟩) ∧ e' 2 = .pointer (some ⟨g2, 0, none⟩) ∧ e' 7 = .pointer (some ⟨g3, 0, none⟩) ∧ e' 18 = .int .i64 f.kind ∧ e' 78 = .bool (decide (f.kind = 5 ∨ f.kind = 6)) ∧ w' = w2) ?_ ?_
  · refine CW_cond _ rfl (fun hh => ?_) (fun hh => ?_)
    · have h5 : f.kind = 5 := by simpa using hh
      rw [hh]
      refine go_WalI (k := ?_)
      exact ⟨rfl, rfl, rfl, rfl, rfl, rfl, by rw [decide_eq_true (show f.kind = 5 ∨ f.kind = 6 from .inl h5)]; rfl, rfl⟩
    have h5 : ¬ f.kind = 5 := by simpa using hh
    refine go_WalI (k := ?_)
    refine ⟨rfl, rfl, rfl, rfl, rfl, rfl, ?_, rfl⟩
    show Value.bool _ = _
    by_cases h6 : f.kind = 6 <;> simp [h5, h6]
  rintro e3 w3 ⟨q0, q1, q2, qA, qK, qB, rfl⟩
  rw [upd_self q0, upd_self q1, upd_self q2, upd_self qA, upd_self qK, upd_self qB]
  refine go_WalI (k := ?_)
  refine CW_cond _ rfl (fun hh => ?_) (fun hh => ?_)
  · clear hh
    have hdl := dLen_start d
    refine go_WalI (k := ?_)
    refine OW_callC Try.func26 (by kernel_rfl) rfl (dStart_any w3 g S d hR1) rfl ?_
    intro en w4 hm
    have hM := mid (Ext.rfl' _) hm
    refine ⟨_, hm.1, ?_⟩
    have hE4 : ER w4 g2 S2 d := by obtain ⟨_, _, q, _⟩ := hM.at_; exact q
    clear hm
    refine go_WalI (k := ?_)
    refine OW_callC Try.func61 (by kernel_rfl) rfl (eStart_any w4 g2 S2 d hE4) rfl ?_
    intro en w5 hm
    have hF := hM.fin hm
    refine ⟨_, hm.1, ?_⟩
    clear hm hM hE4
    refine go_WalI (k := ?_)
    refine OW_callC Try.func67 (by kernel_rfl) rfl (recovers_any w0 w5 v g g2 _ hF (by omega) (by omega)) rfl ?_
    rintro en w6 ⟨rfl, d', hT, hl1, hl2⟩
    refine ⟨_, rfl, ?_⟩
    refine go_WalI (k := ?_)
    exact bodyE_ret1 rfl (.bool true) rfl ⟨rfl, d', hT, by omega, by omega⟩
  clear hh
  refine go_WalI (k := ?_)
  refine CW_cond _ rfl (fun hh => ?_) (fun hh => ?_)
  · clear hh
    have hdl := dLen_write d f.B
    refine go_WalI (k := ?_)
    refine OW_callC Try.func23 (by kernel_rfl) rfl (dWrite_any w3 g S d hR1 (by omega) A c f.B (hok.bs.ext hx01) (by omega)) rfl ?_
    intro en w4 hm
    have hM := mid (Ext.rfl' _) hm
    refine ⟨_, hm.1, ?_⟩
    have hE4 : ER w4 g2 S2 d := by obtain ⟨_, _, q, _⟩ := hM.at_; exact q
    have m34 : w4.cell? ⟨g3, 3, none⟩ = some (.slice A f.B.length c) := hM.blk.cell 3
    clear hm
    refine go_WalI (k := ?_)
    refine OW_callC Try.func58 (by kernel_rfl) rfl (eWrite_any w4 g2 S2 d hE4 A c f.B (hok.bs.ext hM.ext) (by omega) (by omega)) rfl ?_
    intro en w5 hm
    have hF := hM.fin hm
    refine ⟨_, hm.1, ?_⟩
    refine go_WalI (k := ?_)
    exact bodyE_ret1 rfl (.bool true) rfl ⟨rfl, _, hF, by omega, by omega⟩
  clear hh
  refine go_WalI (k := ?_)
  refine CW_cond _ rfl (fun hh => ?_) (fun hh => ?_)
  · refine go_WalI (k := ?_)
    refine OW_callC Try.func67 (by kernel_rfl) rfl (recovers_any w0 w3 v g g2 d two1 (by omega) (by omega)) rfl ?_
    rintro en w6 ⟨rfl, d', hT, hl1, hl2⟩
    refine ⟨_, rfl, ?_⟩
    refine go_WalI (k := ?_)
    exact bodyE_ret1 rfl (.bool true) rfl ⟨rfl, d', hT, by omega, by omega⟩
  · refine go_WalI (k := ?_)
    exact bodyE_ret1 rfl (.bool true) rfl ⟨rfl, d, two1, by omega, by omega⟩
end Go.Proofs.Ytnfeibbnjdegfaa
