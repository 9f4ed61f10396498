/- WireNil: a writer, a reader that nobody made is none. No condition. -/
import Derived.Test.YthhphmbhlddihaaWireN
import Derived.Test.YthhphmbhlddihaaWireY
import Derived.Test.YthhphmbhlddihaaLitM
import Derived.Test.YthhphmbhlddihaaFrame
namespace Go.Proofs.Ythhphmbhlddihaa.lawWireNil
open Go.ChangeShapes Go.WideShapes Go.ChangeAt Go.RowKit
set_option linter.unusedVariables false
set_option maxRecDepth 4000
theorem go_LWireNil {A B : Prop} (h : Held B → A := by
  intro hEnd
  repeat (first | refine OW_neqF rfl rfl rfl ?_ | refine OW_neqTz rfl rfl ?_ | refine OW_neqSF rfl rfl rfl ?_ | refine OW_build _ _ bld_T0 rfl ?_ | refine OW_idxS und_Ws w_ptr rfl rfl _ rfl (by omega) ?_ | refine OW_loadX agg_F rfl _ (by assumption) (by apply_assumption; assumption) ?_ | refine OW_idxS und_Rs r_ptr rfl rfl _ rfl (by omega) ?_ | refine OW_moveV (.int _ _) rfl ?_ | refine OW_moveV (.slice _ _ _) rfl ?_ | refine OW_moveV (.bool _) rfl ?_ | refine OW_moveV (.pointer _) rfl ?_ | refine OW_moveV (.string _) rfl ?_ | refine OW_moveV (.agg _) rfl ?_ | refine OW_moveV (.tuple _) rfl ?_ | refine OW_nil ?_ | refine thenE_normal ?_ | refine CW_seq ?_ | refine CW_region (by kernel_rfl) ?_ | refine OW_assignV (.int _ _) rfl ?_ | refine OW_assignV (.slice _ _ _) rfl ?_ | refine OW_assignV (.bool _) rfl ?_ | refine OW_assignV (.pointer _) rfl ?_ | refine OW_assignV (.string _) rfl ?_ | refine OW_assignV (.agg _) rfl ?_ | refine OW_assignV (.tuple _) rfl ?_ | refine OW_addI rfl rfl (by omega) ?_ | refine OW_subI rfl rfl (by omega) ?_ | refine OW_mulI rfl rfl (by omega) ?_ | refine OW_lss rfl rfl ?_ | refine OW_extract rfl rfl ?_ | refine OW_gtr rfl rfl ?_ | refine OW_leq rfl rfl ?_ | refine OW_geq rfl rfl ?_ | refine OW_eql rfl rfl ?_ | refine OW_neq rfl rfl ?_ | refine OW_not rfl ?_ | refine OW_pickT rfl _ rfl ?_ | refine OW_pickF rfl (.bool _) rfl ?_ | refine OW_pickB rfl rfl rfl ?_ | refine OW_move ?_ | refine OW_assign ?_ | refine OW_pass rfl ?_ | refine OW_take rfl ?_ | refine OW_lenS (by first | with_reducible exact und_bytes | with_reducible exact und_bytess) rfl ?_ | refine OW_convInt (by first | with_reducible exact und_u8 | with_reducible exact und_u64 | with_reducible exact und_int | with_reducible exact und_u32) (by first | with_reducible exact und_u8 | with_reducible exact und_u64 | with_reducible exact und_int | with_reducible exact und_u32) rfl ?_ | refine OW_add rfl rfl ?_ | refine OW_sub rfl rfl ?_ | refine OW_mul rfl rfl ?_ | refine OW_min2 rfl rfl ?_ | refine OW_max2 rfl rfl ?_ | refine OW_neg rfl ?_ | refine CW_block ?_ | refine CW_condT rfl ?_ | refine CW_condF rfl ?_ | refine CW_exit ?_ | refine CW_ret ?_ | refine CW_skip ?_ | refine LW_seq ?_ | refine LW_regC ?_ | refine LW_condC ?_ | refine LW_regF ?_ | refine LW_condF ?_ | refine FW_seq ?_ | refine FW_region (by kernel_rfl) ?_ | refine FW_block ?_ | refine FW_condT rfl ?_ | refine FW_condF rfl ?_ | refine FW_exit ?_ | refine FW_ret ?_ | refine FW_skip ?_ | refine LW_ret ?_ | refine LW_skip ?_ | refine thenE_exit ?_ | refine thenE_ret ?_ | refine inBlockE_normal ?_ | refine inBlockE_same ?_ | refine inBlockE_ret ?_ | refine inBlockE_ne (by rfl) ?_ | refine OW_eqlB (by with_reducible exact und_bool) rfl rfl ?_ | refine OW_neqB (by with_reducible exact und_bool) rfl rfl ?_ | refine OW_idxS (by with_reducible exact und_bytes) one_u8 rfl rfl _ rfl (by omega) ?_ | refine OW_idxS (by with_reducible exact und_bytess) one_bytes rfl rfl _ rfl (by omega) ?_ | refine OW_load1 (by first | with_reducible exact one_u8 | with_reducible exact one_bytes) rfl _ (by assumption) ?_)
  exact hEnd.out) (k : B) : A := h ⟨k⟩
theorem oy_LWireNil {A B : Prop} (h : Held B → A := by
  intro hEnd
  repeat (first
    | refine OY_done ?_
    | (apply OY_p _ rfl
       · intro wd
         (first | refine OW_neqF rfl rfl rfl ?_ | refine OW_neqTz rfl rfl ?_ | refine OW_neqSF rfl rfl rfl ?_ | refine OW_build _ _ bld_T0 rfl ?_ | refine OW_idxS und_Ws w_ptr rfl rfl _ rfl (by omega) ?_ | refine OW_loadX agg_F rfl _ (by assumption) (by apply_assumption; assumption) ?_ | refine OW_idxS und_Rs r_ptr rfl rfl _ rfl (by omega) ?_ | refine OW_moveV (.int _ _) rfl ?_ | refine OW_moveV (.slice _ _ _) rfl ?_ | refine OW_moveV (.bool _) rfl ?_ | refine OW_moveV (.pointer _) rfl ?_ | refine OW_moveV (.string _) rfl ?_ | refine OW_moveV (.agg _) rfl ?_ | refine OW_moveV (.tuple _) rfl ?_ | refine OW_nil ?_ | refine thenE_normal ?_ | refine CW_seq ?_ | refine CW_region (by kernel_rfl) ?_ | refine OW_assignV (.int _ _) rfl ?_ | refine OW_assignV (.slice _ _ _) rfl ?_ | refine OW_assignV (.bool _) rfl ?_ | refine OW_assignV (.pointer _) rfl ?_ | refine OW_assignV (.string _) rfl ?_ | refine OW_assignV (.agg _) rfl ?_ | refine OW_assignV (.tuple _) rfl ?_ | refine OW_addI rfl rfl (by omega) ?_ | refine OW_subI rfl rfl (by omega) ?_ | refine OW_mulI rfl rfl (by omega) ?_ | refine OW_lss rfl rfl ?_ | refine OW_extract rfl rfl ?_ | refine OW_gtr rfl rfl ?_ | refine OW_leq rfl rfl ?_ | refine OW_geq rfl rfl ?_ | refine OW_eql rfl rfl ?_ | refine OW_neq rfl rfl ?_ | refine OW_not rfl ?_ | refine OW_pickT rfl _ rfl ?_ | refine OW_pickF rfl (.bool _) rfl ?_ | refine OW_pickB rfl rfl rfl ?_ | refine OW_move ?_ | refine OW_assign ?_ | refine OW_pass rfl ?_ | refine OW_take rfl ?_ | refine OW_lenS (by first | with_reducible exact und_bytes | with_reducible exact und_bytess) rfl ?_ | refine OW_convInt (by first | with_reducible exact und_u8 | with_reducible exact und_u64 | with_reducible exact und_int | with_reducible exact und_u32) (by first | with_reducible exact und_u8 | with_reducible exact und_u64 | with_reducible exact und_int | with_reducible exact und_u32) rfl ?_ | refine OW_add rfl rfl ?_ | refine OW_sub rfl rfl ?_ | refine OW_mul rfl rfl ?_ | refine OW_min2 rfl rfl ?_ | refine OW_max2 rfl rfl ?_ | refine OW_neg rfl ?_ | refine CW_block ?_ | refine CW_condT rfl ?_ | refine CW_condF rfl ?_ | refine CW_exit ?_ | refine CW_ret ?_ | refine CW_skip ?_ | refine LW_seq ?_ | refine LW_regC ?_ | refine LW_condC ?_ | refine LW_regF ?_ | refine LW_condF ?_ | refine FW_seq ?_ | refine FW_region (by kernel_rfl) ?_ | refine FW_block ?_ | refine FW_condT rfl ?_ | refine FW_condF rfl ?_ | refine FW_exit ?_ | refine FW_ret ?_ | refine FW_skip ?_ | refine LW_ret ?_ | refine LW_skip ?_ | refine thenE_exit ?_ | refine thenE_ret ?_ | refine inBlockE_normal ?_ | refine inBlockE_same ?_ | refine inBlockE_ret ?_ | refine inBlockE_ne (by rfl) ?_ | refine OW_eqlB (by with_reducible exact und_bool) rfl rfl ?_ | refine OW_neqB (by with_reducible exact und_bool) rfl rfl ?_ | refine OW_idxS (by with_reducible exact und_bytes) one_u8 rfl rfl _ rfl (by omega) ?_ | refine OW_idxS (by with_reducible exact und_bytess) one_bytes rfl rfl _ rfl (by omega) ?_ | refine OW_load1 (by first | with_reducible exact one_u8 | with_reducible exact one_bytes) rfl _ (by assumption) ?_)
         refine OW_nil ?_
         exact stay_mk _ _ _ _)
    | (apply OY_q _ rfl
       · intro wd hwd
         (first | refine OW_neqF rfl rfl rfl ?_ | refine OW_neqTz rfl rfl ?_ | refine OW_neqSF rfl rfl rfl ?_ | refine OW_build _ _ bld_T0 rfl ?_ | refine OW_idxS und_Ws w_ptr rfl rfl _ rfl (by omega) ?_ | refine OW_loadX agg_F rfl _ (by assumption) (by apply_assumption; assumption) ?_ | refine OW_idxS und_Rs r_ptr rfl rfl _ rfl (by omega) ?_ | refine OW_moveV (.int _ _) rfl ?_ | refine OW_moveV (.slice _ _ _) rfl ?_ | refine OW_moveV (.bool _) rfl ?_ | refine OW_moveV (.pointer _) rfl ?_ | refine OW_moveV (.string _) rfl ?_ | refine OW_moveV (.agg _) rfl ?_ | refine OW_moveV (.tuple _) rfl ?_ | refine OW_nil ?_ | refine thenE_normal ?_ | refine CW_seq ?_ | refine CW_region (by kernel_rfl) ?_ | refine OW_assignV (.int _ _) rfl ?_ | refine OW_assignV (.slice _ _ _) rfl ?_ | refine OW_assignV (.bool _) rfl ?_ | refine OW_assignV (.pointer _) rfl ?_ | refine OW_assignV (.string _) rfl ?_ | refine OW_assignV (.agg _) rfl ?_ | refine OW_assignV (.tuple _) rfl ?_ | refine OW_addI rfl rfl (by omega) ?_ | refine OW_subI rfl rfl (by omega) ?_ | refine OW_mulI rfl rfl (by omega) ?_ | refine OW_lss rfl rfl ?_ | refine OW_extract rfl rfl ?_ | refine OW_gtr rfl rfl ?_ | refine OW_leq rfl rfl ?_ | refine OW_geq rfl rfl ?_ | refine OW_eql rfl rfl ?_ | refine OW_neq rfl rfl ?_ | refine OW_not rfl ?_ | refine OW_pickT rfl _ rfl ?_ | refine OW_pickF rfl (.bool _) rfl ?_ | refine OW_pickB rfl rfl rfl ?_ | refine OW_move ?_ | refine OW_assign ?_ | refine OW_pass rfl ?_ | refine OW_take rfl ?_ | refine OW_lenS (by first | with_reducible exact und_bytes | with_reducible exact und_bytess) rfl ?_ | refine OW_convInt (by first | with_reducible exact und_u8 | with_reducible exact und_u64 | with_reducible exact und_int | with_reducible exact und_u32) (by first | with_reducible exact und_u8 | with_reducible exact und_u64 | with_reducible exact und_int | with_reducible exact und_u32) rfl ?_ | refine OW_add rfl rfl ?_ | refine OW_sub rfl rfl ?_ | refine OW_mul rfl rfl ?_ | refine OW_min2 rfl rfl ?_ | refine OW_max2 rfl rfl ?_ | refine OW_neg rfl ?_ | refine CW_block ?_ | refine CW_condT rfl ?_ | refine CW_condF rfl ?_ | refine CW_exit ?_ | refine CW_ret ?_ | refine CW_skip ?_ | refine LW_seq ?_ | refine LW_regC ?_ | refine LW_condC ?_ | refine LW_regF ?_ | refine LW_condF ?_ | refine FW_seq ?_ | refine FW_region (by kernel_rfl) ?_ | refine FW_block ?_ | refine FW_condT rfl ?_ | refine FW_condF rfl ?_ | refine FW_exit ?_ | refine FW_ret ?_ | refine FW_skip ?_ | refine LW_ret ?_ | refine LW_skip ?_ | refine thenE_exit ?_ | refine thenE_ret ?_ | refine inBlockE_normal ?_ | refine inBlockE_same ?_ | refine inBlockE_ret ?_ | refine inBlockE_ne (by rfl) ?_ | refine OW_eqlB (by with_reducible exact und_bool) rfl rfl ?_ | refine OW_neqB (by with_reducible exact und_bool) rfl rfl ?_ | refine OW_idxS (by with_reducible exact und_bytes) one_u8 rfl rfl _ rfl (by omega) ?_ | refine OW_idxS (by with_reducible exact und_bytess) one_bytes rfl rfl _ rfl (by omega) ?_ | refine OW_load1 (by first | with_reducible exact one_u8 | with_reducible exact one_bytes) rfl _ (by assumption) ?_ | (refine OW_isLoad ?_; refine OW_loadBk (by first | with_reducible exact one_u8 | with_reducible exact one_bytes | with_reducible exact one_bool | with_reducible exact one_int | with_reducible exact one_errno | with_reducible exact one_u32 | with_reducible exact one_u64 | with_reducible exact one_string | with_reducible exact w_ptr | with_reducible exact r_ptr) rfl (by apply_assumption; assumption) _ (by first | assumption | rfl) ?_) | refine OW_load1 (by first | with_reducible exact one_u8 | with_reducible exact one_bytes | with_reducible exact one_bool | with_reducible exact one_int | with_reducible exact one_errno | with_reducible exact one_u32 | with_reducible exact one_u64 | with_reducible exact one_string | with_reducible exact w_ptr | with_reducible exact r_ptr) rfl _ (by apply_assumption; assumption) ?_)
         refine OW_nil ?_
         exact stay_mk _ _ _ _)
    | refine OY_ppass rfl rfl ?_
    | refine OY_qpass rfl rfl ?_
    | (apply OY_ptake _ rfl rfl
       · intro wd
         (first | refine OW_neqF rfl rfl rfl ?_ | refine OW_neqTz rfl rfl ?_ | refine OW_neqSF rfl rfl rfl ?_ | refine OW_build _ _ bld_T0 rfl ?_ | refine OW_idxS und_Ws w_ptr rfl rfl _ rfl (by omega) ?_ | refine OW_loadX agg_F rfl _ (by assumption) (by apply_assumption; assumption) ?_ | refine OW_idxS und_Rs r_ptr rfl rfl _ rfl (by omega) ?_ | refine OW_moveV (.int _ _) rfl ?_ | refine OW_moveV (.slice _ _ _) rfl ?_ | refine OW_moveV (.bool _) rfl ?_ | refine OW_moveV (.pointer _) rfl ?_ | refine OW_moveV (.string _) rfl ?_ | refine OW_moveV (.agg _) rfl ?_ | refine OW_moveV (.tuple _) rfl ?_ | refine OW_nil ?_ | refine thenE_normal ?_ | refine CW_seq ?_ | refine CW_region (by kernel_rfl) ?_ | refine OW_assignV (.int _ _) rfl ?_ | refine OW_assignV (.slice _ _ _) rfl ?_ | refine OW_assignV (.bool _) rfl ?_ | refine OW_assignV (.pointer _) rfl ?_ | refine OW_assignV (.string _) rfl ?_ | refine OW_assignV (.agg _) rfl ?_ | refine OW_assignV (.tuple _) rfl ?_ | refine OW_addI rfl rfl (by omega) ?_ | refine OW_subI rfl rfl (by omega) ?_ | refine OW_mulI rfl rfl (by omega) ?_ | refine OW_lss rfl rfl ?_ | refine OW_extract rfl rfl ?_ | refine OW_gtr rfl rfl ?_ | refine OW_leq rfl rfl ?_ | refine OW_geq rfl rfl ?_ | refine OW_eql rfl rfl ?_ | refine OW_neq rfl rfl ?_ | refine OW_not rfl ?_ | refine OW_pickT rfl _ rfl ?_ | refine OW_pickF rfl (.bool _) rfl ?_ | refine OW_pickB rfl rfl rfl ?_ | refine OW_move ?_ | refine OW_assign ?_ | refine OW_pass rfl ?_ | refine OW_take rfl ?_ | refine OW_lenS (by first | with_reducible exact und_bytes | with_reducible exact und_bytess) rfl ?_ | refine OW_convInt (by first | with_reducible exact und_u8 | with_reducible exact und_u64 | with_reducible exact und_int | with_reducible exact und_u32) (by first | with_reducible exact und_u8 | with_reducible exact und_u64 | with_reducible exact und_int | with_reducible exact und_u32) rfl ?_ | refine OW_add rfl rfl ?_ | refine OW_sub rfl rfl ?_ | refine OW_mul rfl rfl ?_ | refine OW_min2 rfl rfl ?_ | refine OW_max2 rfl rfl ?_ | refine OW_neg rfl ?_ | refine CW_block ?_ | refine CW_condT rfl ?_ | refine CW_condF rfl ?_ | refine CW_exit ?_ | refine CW_ret ?_ | refine CW_skip ?_ | refine LW_seq ?_ | refine LW_regC ?_ | refine LW_condC ?_ | refine LW_regF ?_ | refine LW_condF ?_ | refine FW_seq ?_ | refine FW_region (by kernel_rfl) ?_ | refine FW_block ?_ | refine FW_condT rfl ?_ | refine FW_condF rfl ?_ | refine FW_exit ?_ | refine FW_ret ?_ | refine FW_skip ?_ | refine LW_ret ?_ | refine LW_skip ?_ | refine thenE_exit ?_ | refine thenE_ret ?_ | refine inBlockE_normal ?_ | refine inBlockE_same ?_ | refine inBlockE_ret ?_ | refine inBlockE_ne (by rfl) ?_ | refine OW_eqlB (by with_reducible exact und_bool) rfl rfl ?_ | refine OW_neqB (by with_reducible exact und_bool) rfl rfl ?_ | refine OW_idxS (by with_reducible exact und_bytes) one_u8 rfl rfl _ rfl (by omega) ?_ | refine OW_idxS (by with_reducible exact und_bytess) one_bytes rfl rfl _ rfl (by omega) ?_ | refine OW_load1 (by first | with_reducible exact one_u8 | with_reducible exact one_bytes) rfl _ (by assumption) ?_)
         refine OW_nil ?_
         exact stay_mk _ _ _ _)
    | (apply OY_qtake _ rfl rfl
       · intro wd hwd
         (first | refine OW_neqF rfl rfl rfl ?_ | refine OW_neqTz rfl rfl ?_ | refine OW_neqSF rfl rfl rfl ?_ | refine OW_build _ _ bld_T0 rfl ?_ | refine OW_idxS und_Ws w_ptr rfl rfl _ rfl (by omega) ?_ | refine OW_loadX agg_F rfl _ (by assumption) (by apply_assumption; assumption) ?_ | refine OW_idxS und_Rs r_ptr rfl rfl _ rfl (by omega) ?_ | refine OW_moveV (.int _ _) rfl ?_ | refine OW_moveV (.slice _ _ _) rfl ?_ | refine OW_moveV (.bool _) rfl ?_ | refine OW_moveV (.pointer _) rfl ?_ | refine OW_moveV (.string _) rfl ?_ | refine OW_moveV (.agg _) rfl ?_ | refine OW_moveV (.tuple _) rfl ?_ | refine OW_nil ?_ | refine thenE_normal ?_ | refine CW_seq ?_ | refine CW_region (by kernel_rfl) ?_ | refine OW_assignV (.int _ _) rfl ?_ | refine OW_assignV (.slice _ _ _) rfl ?_ | refine OW_assignV (.bool _) rfl ?_ | refine OW_assignV (.pointer _) rfl ?_ | refine OW_assignV (.string _) rfl ?_ | refine OW_assignV (.agg _) rfl ?_ | refine OW_assignV (.tuple _) rfl ?_ | refine OW_addI rfl rfl (by omega) ?_ | refine OW_subI rfl rfl (by omega) ?_ | refine OW_mulI rfl rfl (by omega) ?_ | refine OW_lss rfl rfl ?_ | refine OW_extract rfl rfl ?_ | refine OW_gtr rfl rfl ?_ | refine OW_leq rfl rfl ?_ | refine OW_geq rfl rfl ?_ | refine OW_eql rfl rfl ?_ | refine OW_neq rfl rfl ?_ | refine OW_not rfl ?_ | refine OW_pickT rfl _ rfl ?_ | refine OW_pickF rfl (.bool _) rfl ?_ | refine OW_pickB rfl rfl rfl ?_ | refine OW_move ?_ | refine OW_assign ?_ | refine OW_pass rfl ?_ | refine OW_take rfl ?_ | refine OW_lenS (by first | with_reducible exact und_bytes | with_reducible exact und_bytess) rfl ?_ | refine OW_convInt (by first | with_reducible exact und_u8 | with_reducible exact und_u64 | with_reducible exact und_int | with_reducible exact und_u32) (by first | with_reducible exact und_u8 | with_reducible exact und_u64 | with_reducible exact und_int | with_reducible exact und_u32) rfl ?_ | refine OW_add rfl rfl ?_ | refine OW_sub rfl rfl ?_ | refine OW_mul rfl rfl ?_ | refine OW_min2 rfl rfl ?_ | refine OW_max2 rfl rfl ?_ | refine OW_neg rfl ?_ | refine CW_block ?_ | refine CW_condT rfl ?_ | refine CW_condF rfl ?_ | refine CW_exit ?_ | refine CW_ret ?_ | refine CW_skip ?_ | refine LW_seq ?_ | refine LW_regC ?_ | refine LW_condC ?_ | refine LW_regF ?_ | refine LW_condF ?_ | refine FW_seq ?_ | refine FW_region (by kernel_rfl) ?_ | refine FW_block ?_ | refine FW_condT rfl ?_ | refine FW_condF rfl ?_ | refine FW_exit ?_ | refine FW_ret ?_ | refine FW_skip ?_ | refine LW_ret ?_ | refine LW_skip ?_ | refine thenE_exit ?_ | refine thenE_ret ?_ | refine inBlockE_normal ?_ | refine inBlockE_same ?_ | refine inBlockE_ret ?_ | refine inBlockE_ne (by rfl) ?_ | refine OW_eqlB (by with_reducible exact und_bool) rfl rfl ?_ | refine OW_neqB (by with_reducible exact und_bool) rfl rfl ?_ | refine OW_idxS (by with_reducible exact und_bytes) one_u8 rfl rfl _ rfl (by omega) ?_ | refine OW_idxS (by with_reducible exact und_bytess) one_bytes rfl rfl _ rfl (by omega) ?_ | refine OW_load1 (by first | with_reducible exact one_u8 | with_reducible exact one_bytes) rfl _ (by assumption) ?_ | (refine OW_isLoad ?_; refine OW_loadBk (by first | with_reducible exact one_u8 | with_reducible exact one_bytes | with_reducible exact one_bool | with_reducible exact one_int | with_reducible exact one_errno | with_reducible exact one_u32 | with_reducible exact one_u64 | with_reducible exact one_string | with_reducible exact w_ptr | with_reducible exact r_ptr) rfl (by apply_assumption; assumption) _ (by first | assumption | rfl) ?_) | refine OW_load1 (by first | with_reducible exact one_u8 | with_reducible exact one_bytes | with_reducible exact one_bool | with_reducible exact one_int | with_reducible exact one_errno | with_reducible exact one_u32 | with_reducible exact one_u64 | with_reducible exact one_string | with_reducible exact w_ptr | with_reducible exact r_ptr) rfl _ (by apply_assumption; assumption) ?_)
         refine OW_nil ?_
         exact stay_mk _ _ _ _)
    | refine OY_a (actY_of rfl ?_)
    | refine OY_d (actY_of rfl ?_)
    | refine OY_a (actY_pass rfl rfl ?_)
    | refine OY_d (actY_pass rfl rfl ?_)
    | refine OY_a (actY_take rfl rfl ?_)
    | refine OY_d (actY_take rfl rfl ?_))
  exact hEnd.out) (k : B) : A := h ⟨k⟩
theorem und_Ws : Try.prog.underlying 33 = some (.slice 29) := Try.underlying33
theorem und_Rs : Try.prog.underlying 37 = some (.slice 30) := Try.underlying37
theorem info_pW : (Try.prog.info? 29).map (fun i => (i.zero, i.size, i.bytes)) = some (some (.pointer none), 1, 8) := by kernel_rfl
theorem info_pR : (Try.prog.info? 30).map (fun i => (i.zero, i.size, i.bytes)) = some (some (.pointer none), 1, 8) := by kernel_rfl
theorem w_ptr : OneT Try.prog 29 := ⟨.pointer none, 8, by kernel_rfl, rfl, by kernel_rfl⟩
theorem r_ptr : OneT Try.prog 30 := ⟨.pointer none, 8, by kernel_rfl, rfl, by kernel_rfl⟩
theorem bld_W0 : ∀ w, (Instr.build 32 [].toArray).run Try.prog w = .ok (.agg #[.bool false, .bool false, .slice none 0 0]) w := fun w => by kernel_rfl
theorem bld_R0 : ∀ w, (Instr.build 36 [].toArray).run Try.prog w = .ok (.agg #[.bool false, .slice none 0 0, .int .i64 0]) w := fun w => by kernel_rfl
theorem bld_T0 : ∀ w, (Instr.build 24 [].toArray).run Try.prog w = .ok (.agg (tz.map bv).toArray) w := fun w => by kernel_rfl
section
variable {ops : Array Oper} {Q : Exit → (Nat → Value) → World → Prop} {rest : List Oper} {e : Nat → Value} {w : World} {d : Tmp} {ty : TypeId} {pos : String} {aft : Array Edge}
theorem OW_neqTz {x y : Operand} {t' : TypeId} (hx : ev e x = .agg (tz.map bv).toArray) (hy : ev e y = .agg (tz.map bv).toArray) (h : OW Try.prog ops Q rest (upd e d (.bool false)) w) : OW Try.prog ops Q (⟨some d, .binOp .neq 24 x y t', ty, pos, aft, none⟩ :: rest) e w := by
  refine OW_neqR eqr_Tag hx hy rfl rfl ?_
  rw [decide_eq_true rfl]
  exact h
theorem OW_neqSF {x y : Operand} {t t' : TypeId} {a b : ByteArray} (hx : ev e x = .string a) (hy : ev e y = .string b) (hab : a = b) (h : OW Try.prog ops Q rest (upd e d (.bool false)) w) : OW Try.prog ops Q (⟨some d, .binOp .neq t x y t', ty, pos, aft, none⟩ :: rest) e w := by
  refine OW_neqS hx hy ?_
  rw [decide_eq_true hab]
  exact h
end
set_option maxHeartbeats 8000000 in
theorem walk (w : World) (cs : List Value) (f : FD) (h0 : kField.R w cs f) : Calls Try.prog 3 #[.agg cs.toArray] w (RetV w (.bool true)) := by
  obtain ⟨B, cB, rfl, hok⟩ := h0
  have hfl := fcells_length (v := .slice B f.B.length cB) hok.tag
  refine calls_of_CW Try.func3 rfl (by simp [Try.ntmps3]) ?_
  rw [Try.ntmps3]
  refine go_LWireNil (k := ?_)
  refine OW_box _ rfl ?_
  intro w1 g1 hb1 hg1 hl1 hx1
  have hb1 : Blk w1 g1 26 (fcells f (.slice B f.B.length cB)).toArray := hb1
  refine go_LWireNil (k := ?_)
  refine OW_loadX agg_F rfl (fcells f (.slice B f.B.length cB)) hfl (Blk.atL hb1) ?_
  refine OW_litM [fcells f (.slice B f.B.length cB)] und_Fs agg_F rfl rfl (fun v hv => by rw [List.mem_singleton] at hv; rw [hv]; exact hfl) (by decide) ?_
  intro w2 g2 hb2 hg2 hl2 hx2
  have hx02 := hx1.trans' hx2
  have hFs : FS w2 (some ⟨g2, 0, none⟩) [f] := fun i hi => by
    have hi0 : i = 0 := by simpa using hi
    subst hi0
    refine ⟨_, fcells f (.slice B f.B.length cB), rfl, hfl, ?_, B, cB, rfl, hok.ext hx02⟩
    have := Blk.atL hb2
    simpa [Addr.add] using this
  refine go_LWireNil (k := ?_)
  refine OW_callV Try.func16 (by kernel_rfl) rfl (great_any w2 (some ⟨g2, 0, none⟩) 1 [f] hFs (by simp)) rfl ?_
  intro w3 hx3
  refine go_LWireNil (k := ?_)
  refine CW_cond _ rfl (fun h => ?_) (fun h => ?_)
  · refine go_LWireNil (k := ?_)
    exact bodyE_ret1 rfl (.bool true) rfl ⟨rfl, hx02.trans' hx3⟩
  have hx03 := hx02.trans' hx3
  refine go_LWireNil (k := ?_)
  refine OW_build _ _ bld_W0 rfl ?_
  refine go_LWireNil (k := ?_)
  refine OW_box _ rfl ?_
  intro w4 g4 hb4 hg4 hl4 hx4
  have hb4 : Blk w4 g4 32 #[.bool false, .bool false, .slice none 0 0] := hb4
  refine go_LWireNil (k := ?_)
  refine OW_lit [.pointer none, .pointer (some ⟨g4, 0, none⟩)] und_Ws info_pW rfl rfl (by simp [Value.oneCell']) (by decide) ?_
  intro w5 g5 hb5 hg5 hx5
  refine go_LWireNil (k := ?_)
  refine OW_build _ _ bld_R0 rfl ?_
  refine go_LWireNil (k := ?_)
  refine OW_box _ rfl ?_
  intro w6 g6 hb6 hg6 hl6 hx6
  have hb6 : Blk w6 g6 36 #[.bool false, .slice none 0 0, .int .i64 0] := hb6
  refine go_LWireNil (k := ?_)
  refine OW_lit [.pointer none, .pointer (some ⟨g6, 0, none⟩)] und_Rs info_pR rfl rfl (by simp [Value.oneCell']) (by decide) ?_
  intro w7 g7 hb7 hg7 hx7
  have hx57 := hx6.trans' hx7
  have hx37 := hx4.trans' (hx5.trans' hx57)
  have hN : ∀ i, i < 2 → ∃ P, w7.cell? ⟨g5, i, none⟩ = some (.pointer P) ∧ No w7 P := fun i hi => by
    rcases (by omega : i = 0 ∨ i = 1) with rfl | rfl
    · exact ⟨none, hx57.cell' (hb5.cell 0), .inl rfl⟩
    · exact ⟨_, hx57.cell' (hb5.cell 1), .inr ⟨g4, rfl, (hx5.trans' hx57).cell' (hb4.cell 0)⟩⟩
  have hM : ∀ i, i < 2 → ∃ P, w7.cell? ⟨g7, i, none⟩ = some (.pointer P) ∧ No w7 P := fun i hi => by
    rcases (by omega : i = 0 ∨ i = 1) with rfl | rfl
    · exact ⟨none, hb7.cell 0, .inl rfl⟩
    · exact ⟨_, hb7.cell 1, .inr ⟨g6, rfl, hx7.cell' (hb6.cell 0)⟩⟩
  have hb17 := hb1.ext ((hx2.trans' hx3).trans' hx37)
  have hx07 := hx03.trans' hx37
  have hok7 := hok.ext hx07
  clear hb1 hb2 hb4 hb5 hb6 hb7 hFs
  refine go_LWireNil (k := ?_)
  refine CW_loop (fun e' w' => ∃ i : Nat, i ≤ 2 ∧ e' 1 = .pointer (some ⟨g1, 0, none⟩) ∧ e' 5 = .slice (some ⟨g5, 0, none⟩) 2 2 ∧ e' 6 = .slice (some ⟨g7, 0, none⟩) 2 2 ∧ e' 7 = .int .i64 i ∧ Ext w7 w') (fun e' _ => 2 - (intOf (e' 7)).toNat) ?_ ?_
  · exact ⟨0, by omega, rfl, rfl, rfl, rfl, Ext.rfl' _⟩
  rintro e8 w8 ⟨i, hi, q1, q5, q6, q7, hx8⟩
  rw [upd_self q1, upd_self q5, upd_self q6, upd_self q7]
  refine go_LWireNil (k := ?_)
  refine CW_cond _ rfl (fun h => ?_) (fun h => ?_)
  · have hlt : i < 2 := by have := of_decide_eq_true h; omega
    clear h
    obtain ⟨P, hP, hno⟩ := hN i hlt
    obtain ⟨R, hR, hnr⟩ := hM i hlt
    have hP8 : w8.cell? ((⟨g5, 0, none⟩ : Addr).add i) = some (.pointer P) := by rw [add0]; exact hx8.cell' hP
    have hno8 := hno.ext hx8
    have hok8 := hok7.ext hx8
    have hbF := hb17.ext hx8
    refine go_LWireNil (k := ?_)
    obtain ⟨C, hC⟩ : ∃ C : World → Prop, C = fun v => Ext w8 v := ⟨_, rfl⟩
    have y1 : ∀ v, C v → v.cell? ((⟨g5, 0, none⟩ : Addr).add i) = some (.pointer P) := by rw [hC]; exact fun v hv => hv.cell' hP8
    have y2 : ∀ v, C v → At v ⟨g1, 0, none⟩ (fcells f (.slice B f.B.length cB)) := by rw [hC]; exact fun v hv => (Blk.atL hbF).ext hv
    refine CW_tree2 [3, 4] (.p 0 (.p 1 (.p 2 (.q 3 (.q 4 (.d 5 .done)))))) (C) (by kernel_rfl) (by kernel_rfl) (by kernel_rfl) ?_ ?_
    · rw [hC]; exact fun v hv => hv
    intro w9 hx9 hC9
    refine oy_LWireNil (k := ?_)
    refine OW_callV Try.func17 (by kernel_rfl) rfl (writeN_any w9 P (hno8.ext hx9) f B cB (hok8.ext hx9)) rfl ?_
    intro w10 hx10
    have hx810 := hx9.trans' hx10
    have hC10 : C w10 := by rw [hC]; exact hx810
    first | refine OW_nil (goY_mk hC10 ?_) | refine OW_nil (goY_drop C hC10 ?_) | refine OW_nil (goY_done ?_)
    try refine oy_LWireNil (k := ?_)
    have hP10 : w10.cell? ((⟨g5, 0, none⟩ : Addr).add i) = some (.pointer P) := hx810.cell' hP8
    refine go_LWireNil (k := ?_)
    refine OW_load1 w_ptr rfl _ hP10 ?_
    refine go_LWireNil (k := ?_)
    refine OW_callV Try.func18 (by kernel_rfl) rfl (wDoneN_any w10 P (hno8.ext hx810)) rfl ?_
    intro w11 hx11
    have hx811 := hx810.trans' hx11
    clear hP10 y1 y2 hC hC9 hC10
    refine go_LWireNil (k := ?_)
    refine OW_load1 r_ptr rfl _ (show w11.cell? ((⟨g7, 0, none⟩ : Addr).add i) = some (.pointer R) by rw [add0]; exact (hx8.trans' hx811).cell' hR) ?_
    refine go_LWireNil (k := ?_)
    refine OW_callV Try.func19 (by kernel_rfl) rfl (rByteN_any w11 R (hnr.ext (hx8.trans' hx811))) rfl ?_
    intro w12 hx12
    have hx812 := hx811.trans' hx12
    refine go_LWireNil (k := ?_)
    refine OW_load1 r_ptr rfl _ (show w12.cell? ((⟨g7, 0, none⟩ : Addr).add i) = some (.pointer R) by rw [add0]; exact (hx8.trans' hx812).cell' hR) ?_
    refine go_LWireNil (k := ?_)
    refine OW_callV Try.func20 (by kernel_rfl) rfl (rIntN_any w12 R (hnr.ext (hx8.trans' hx812))) rfl ?_
    intro w13 hx13
    have hx813 := hx812.trans' hx13
    refine go_LWireNil (k := ?_)
    refine OW_load1 r_ptr rfl _ (show w13.cell? ((⟨g7, 0, none⟩ : Addr).add i) = some (.pointer R) by rw [add0]; exact (hx8.trans' hx813).cell' hR) ?_
    refine go_LWireNil (k := ?_)
    refine OW_callV Try.func21 (by kernel_rfl) rfl (rFlagN_any w13 R (hnr.ext (hx8.trans' hx813))) rfl ?_
    intro w14 hx14
    have hx814 := hx813.trans' hx14
    refine go_LWireNil (k := ?_)
    refine OW_load1 r_ptr rfl _ (show w14.cell? ((⟨g7, 0, none⟩ : Addr).add i) = some (.pointer R) by rw [add0]; exact (hx8.trans' hx814).cell' hR) ?_
    refine go_LWireNil (k := ?_)
    refine OW_callV Try.func22 (by kernel_rfl) rfl (rBytesN_any w14 R (hnr.ext (hx8.trans' hx814))) rfl ?_
    intro w15 hx15
    have hx815 := hx814.trans' hx15
    refine go_LWireNil (k := ?_)
    refine OW_load1 r_ptr rfl _ (show w15.cell? ((⟨g7, 0, none⟩ : Addr).add i) = some (.pointer R) by rw [add0]; exact (hx8.trans' hx815).cell' hR) ?_
    refine go_LWireNil (k := ?_)
    refine OW_callV Try.func23 (by kernel_rfl) rfl (rTextN_any w15 R (hnr.ext (hx8.trans' hx815))) rfl ?_
    intro w16 hx16
    have hx816 := hx815.trans' hx16
    refine go_LWireNil (k := ?_)
    refine OW_load1 r_ptr rfl _ (show w16.cell? ((⟨g7, 0, none⟩ : Addr).add i) = some (.pointer R) by rw [add0]; exact (hx8.trans' hx816).cell' hR) ?_
    refine go_LWireNil (k := ?_)
    refine OW_callV Try.func24 (by kernel_rfl) rfl (rTagN_any w16 R (hnr.ext (hx8.trans' hx816))) rfl ?_
    intro w17 hx17
    have hx817 := hx816.trans' hx17
    refine go_LWireNil (k := ?_)
    refine OW_load1 r_ptr rfl _ (show w17.cell? ((⟨g7, 0, none⟩ : Addr).add i) = some (.pointer R) by rw [add0]; exact (hx8.trans' hx817).cell' hR) ?_
    refine go_LWireNil (k := ?_)
    refine OW_callV Try.func25 (by kernel_rfl) rfl (rCountN_any w17 R (hnr.ext (hx8.trans' hx817)) 5) rfl ?_
    intro w18 hx18
    have hx818 := hx817.trans' hx18
    refine go_LWireNil (k := ?_)
    refine OW_load1 r_ptr rfl _ (show w18.cell? ((⟨g7, 0, none⟩ : Addr).add i) = some (.pointer R) by rw [add0]; exact (hx8.trans' hx818).cell' hR) ?_
    refine go_LWireNil (k := ?_)
    refine OW_callV Try.func26 (by kernel_rfl) rfl (rLeftN_any w18 R (hnr.ext (hx8.trans' hx818))) rfl ?_
    intro w19 hx19
    have hx819 := hx818.trans' hx19
    refine go_LWireNil (k := ?_)
    refine OW_load1 r_ptr rfl _ (show w19.cell? ((⟨g7, 0, none⟩ : Addr).add i) = some (.pointer R) by rw [add0]; exact (hx8.trans' hx819).cell' hR) ?_
    refine go_LWireNil (k := ?_)
    refine OW_callV Try.func27 (by kernel_rfl) rfl (rErrN_any w19 R (hnr.ext (hx8.trans' hx819))) rfl ?_
    intro w20 hx20
    have hx820 := hx819.trans' hx20
    refine go_LWireNil (k := ?_)
    refine OW_load1 r_ptr rfl _ (show w20.cell? ((⟨g7, 0, none⟩ : Addr).add i) = some (.pointer R) by rw [add0]; exact (hx8.trans' hx820).cell' hR) ?_
    refine go_LWireNil (k := ?_)
    refine OW_callV Try.func28 (by kernel_rfl) rfl (rEndN_any w20 R (hnr.ext (hx8.trans' hx820))) rfl ?_
    intro w21 hx21
    have hx821 := hx820.trans' hx21
    refine go_LWireNil (k := ?_)
    refine ⟨⟨i + 1, by omega, rfl, rfl, rfl, rfl, hx8.trans' hx821⟩, ?_⟩
    show 2 - ((i : Int) + 1).toNat < 2 - (i : Int).toNat
    omega
  · refine go_LWireNil (k := ?_)
    exact bodyE_ret1 rfl (.bool true) rfl ⟨rfl, hx07.trans' hx8⟩
set_option maxRecDepth 100000 in
theorem lifted (os : Os) (started : os.Started) (H : Type) (enc : TypeId × Value → H) :
    ReturnsInHanded {} Try.checked os 3 .any (Rows.wireNilSpec.pre6 enc Try.prog Try.f3 Rows.wireNilRow.domain false) (Rows.wireNilSpec.post enc Try.prog Try.f3 false true false false) := by
  refine returnsInHanded_of_change_sized (C := Try.checked) ownP started (by kernel_rfl) Try.func3
    (ChangeSpec.witness6 (enc := enc) (C := Try.checked) false ⟨#[], #[.agg (fcells ⟨0, 0, [], tz⟩ (.slice none 0 0)).toArray], []⟩ 8 (by kernel_rfl) (by kernel_rfl) (by kernel_rfl) (by kernel_rfl)) ?_
  intro W base args ds gs before hval0 hW hcnd hwt0 _
  have hval : ∀ (j : Nat) t v, Try.f3.params[j]? = some t → args[j]? = some v → Value.okWide Try.prog W .any base t v := hval0
  have hW' := hW
  obtain ⟨p, q, hA0, hV, rfl, hfz, hnd⟩ := hW
  have hA : DataW.TrodAll enc Try.prog W 0 (fun _ => true) true Try.f3.params.toList args.toList ds p := hA0
  have hwt : (DataW.weightsEach Try.prog (Try.f3.params.toList ++ []) (ds ++ gs)).all (· ≤ reachBytes) = true := hwt0
  rw [Try.params3] at hA hval hwt
  obtain ⟨v0, vs0, d0, ds0, p0, q0, hargs, rfl, rfl, h0, r0⟩ := trodAll_cons hA
  obtain ⟨rfl, rfl, rfl⟩ := trodAll_nil r0
  obtain rfl : args = #[v0] := by cases args; simp_all
  obtain ⟨rfl, rfl⟩ := trodVars_none hV
  have k0 := h0
  have lt0 : ∀ x ∈ p0, x.block < W.heap.size := by obtain ⟨m, hm⟩ := k0; exact DataW.trod_lt m _ _ _ hm
  have wk0 : WOk Try.prog 26 d0 := wok_each hwt 0 rfl rfl
  obtain ⟨cs0, a0, rfl, b0⟩ := kd_struct kField Try.underlying26 (hval 0 26 v0 rfl rfl) h0 wk0
  clear hA0 hval0 hwt0
  refine (walk W cs0 a0 b0).mono fun e W' ⟨he, bel⟩ => ?_
  subst he
  exact ⟨_, rfl, _, _, _, [], _, [], hW', trodAll_mk1 (shut_bool Try.underlying4 _), (trodAll_cons_mk (Below.trod laidP (by kernel_rfl) (of_decide_eq_true (by kernel_rfl)) k0 bel lt0) trodAll_mk0), rfl, bel.frame _, fun h => by cases h⟩
theorem over : Rows.wireNilRow.holds Try.pinned (OpenSpec.ofChange Rows.wireNilSpec) :=
  OpenClaim.holds_of_wide 3 Try.f3 rfl rfl rfl rfl rfl rfl rfl ⟨rfl, rfl, rfl, rfl, rfl⟩ rfl rfl rfl rfl rfl (by kernel_rfl) Try.func3 (by kernel_rfl)
    (of_decide_eq_true (by kernel_rfl)) (by unfold Func.isWrapper; first | (rw [if_pos (by decide +kernel)]; kernel_rfl) | (rw [if_neg (by decide +kernel)]; exact ⟨rfl, rfl⟩))
    (fun os started H enc _ => lifted os started H enc)
theorem proved : Rows.WireNilSaid := over
#print axioms proved
end Go.Proofs.Ythhphmbhlddihaa.lawWireNil
