/- DiskPlays: any acts come to what the chapter says. No condition. -/
import Derived.Test.YtkidofecahaajaaDskC
namespace Go.Proofs.Ytkidofecahaajaa.lawDiskPlays
open Go.ChangeShapes Go.WideShapes Go.ChangeAt Go.RowKit
set_option linter.unusedVariables false
set_option maxRecDepth 4000
theorem go_LDiskPlays {A B : Prop} (h : Held B → A := by
  intro hEnd
  repeat (first | refine OW_fieldB fldo_E0 rfl ?_ | refine OW_fieldB fldo_E1 rfl ?_ | refine OW_fieldB fldo_E2 rfl ?_ | refine OW_fieldB fldo_E3 rfl ?_ | refine OW_nilCheck rfl ?_ | refine OW_lenS und_ints rfl ?_ | refine OW_lenS und_As rfl ?_ | refine OW_idxN und_As el_A rfl rfl _ rfl (by omega) ?_ | refine OW_neqF rfl rfl rfl ?_ | refine OW_moveV (.int _ _) rfl ?_ | refine OW_moveV (.slice _ _ _) rfl ?_ | refine OW_moveV (.bool _) rfl ?_ | refine OW_moveV (.pointer _) rfl ?_ | refine OW_moveV (.string _) rfl ?_ | refine OW_moveV (.agg _) rfl ?_ | refine OW_moveV (.tuple _) rfl ?_ | refine OW_nil ?_ | refine thenE_normal ?_ | refine CW_seq ?_ | refine CW_region (by kernel_rfl) ?_ | refine OW_assignV (.int _ _) rfl ?_ | refine OW_assignV (.slice _ _ _) rfl ?_ | refine OW_assignV (.bool _) rfl ?_ | refine OW_assignV (.pointer _) rfl ?_ | refine OW_assignV (.string _) rfl ?_ | refine OW_assignV (.agg _) rfl ?_ | refine OW_assignV (.tuple _) rfl ?_ | refine OW_addI rfl rfl (by omega) ?_ | refine OW_subI rfl rfl (by omega) ?_ | refine OW_mulI rfl rfl (by omega) ?_ | refine OW_lss rfl rfl ?_ | refine OW_extract rfl rfl ?_ | refine OW_gtr rfl rfl ?_ | refine OW_leq rfl rfl ?_ | refine OW_geq rfl rfl ?_ | refine OW_eql rfl rfl ?_ | refine OW_neq rfl rfl ?_ | refine OW_not rfl ?_ | refine OW_pickT rfl _ rfl ?_ | refine OW_pickF rfl (.bool _) rfl ?_ | refine OW_pickB rfl rfl rfl ?_ | refine OW_move ?_ | refine OW_assign ?_ | refine OW_pass rfl ?_ | refine OW_take rfl ?_ | refine OW_lenS (by first | with_reducible exact und_bytes | with_reducible exact und_bytess) rfl ?_ | refine OW_convInt (by first | with_reducible exact und_u8 | with_reducible exact und_u64 | with_reducible exact und_int | with_reducible exact und_u32) (by first | with_reducible exact und_u8 | with_reducible exact und_u64 | with_reducible exact und_int | with_reducible exact und_u32) rfl ?_ | refine OW_add rfl rfl ?_ | refine OW_sub rfl rfl ?_ | refine OW_mul rfl rfl ?_ | refine OW_min2 rfl rfl ?_ | refine OW_max2 rfl rfl ?_ | refine OW_neg rfl ?_ | refine CW_block ?_ | refine CW_condT rfl ?_ | refine CW_condF rfl ?_ | refine CW_exit ?_ | refine CW_ret ?_ | refine CW_skip ?_ | refine LW_seq ?_ | refine LW_regC ?_ | refine LW_condC ?_ | refine LW_regF ?_ | refine LW_condF ?_ | refine FW_seq ?_ | refine FW_region (by kernel_rfl) ?_ | refine FW_block ?_ | refine FW_condT rfl ?_ | refine FW_condF rfl ?_ | refine FW_exit ?_ | refine FW_ret ?_ | refine FW_skip ?_ | refine LW_ret ?_ | refine LW_skip ?_ | refine thenE_exit ?_ | refine thenE_ret ?_ | refine inBlockE_normal ?_ | refine inBlockE_same ?_ | refine inBlockE_ret ?_ | refine inBlockE_ne (by rfl) ?_ | refine OW_eqlB (by with_reducible exact und_bool) rfl rfl ?_ | refine OW_neqB (by with_reducible exact und_bool) rfl rfl ?_ | refine OW_idxS (by with_reducible exact und_bytes) one_u8 rfl rfl _ rfl (by omega) ?_ | refine OW_idxS (by with_reducible exact und_bytess) one_bytes rfl rfl _ rfl (by omega) ?_ | refine OW_load1 (by first | with_reducible exact one_u8 | with_reducible exact one_bytes) rfl _ (by assumption) ?_)
  exact hEnd.out) (k : B) : A := h ⟨k⟩
theorem oy_LDiskPlays {A B : Prop} (h : Held B → A := by
  intro hEnd
  repeat (first
    | refine OY_done ?_
    | (apply OY_p _ rfl
       · intro wd
         (first | refine OW_fieldB fldo_E0 rfl ?_ | refine OW_fieldB fldo_E1 rfl ?_ | refine OW_fieldB fldo_E2 rfl ?_ | refine OW_fieldB fldo_E3 rfl ?_ | refine OW_nilCheck rfl ?_ | refine OW_lenS und_ints rfl ?_ | refine OW_lenS und_As rfl ?_ | refine OW_idxN und_As el_A rfl rfl _ rfl (by omega) ?_ | refine OW_neqF rfl rfl rfl ?_ | refine OW_moveV (.int _ _) rfl ?_ | refine OW_moveV (.slice _ _ _) rfl ?_ | refine OW_moveV (.bool _) rfl ?_ | refine OW_moveV (.pointer _) rfl ?_ | refine OW_moveV (.string _) rfl ?_ | refine OW_moveV (.agg _) rfl ?_ | refine OW_moveV (.tuple _) rfl ?_ | refine OW_nil ?_ | refine thenE_normal ?_ | refine CW_seq ?_ | refine CW_region (by kernel_rfl) ?_ | refine OW_assignV (.int _ _) rfl ?_ | refine OW_assignV (.slice _ _ _) rfl ?_ | refine OW_assignV (.bool _) rfl ?_ | refine OW_assignV (.pointer _) rfl ?_ | refine OW_assignV (.string _) rfl ?_ | refine OW_assignV (.agg _) rfl ?_ | refine OW_assignV (.tuple _) rfl ?_ | refine OW_addI rfl rfl (by omega) ?_ | refine OW_subI rfl rfl (by omega) ?_ | refine OW_mulI rfl rfl (by omega) ?_ | refine OW_lss rfl rfl ?_ | refine OW_extract rfl rfl ?_ | refine OW_gtr rfl rfl ?_ | refine OW_leq rfl rfl ?_ | refine OW_geq rfl rfl ?_ | refine OW_eql rfl rfl ?_ | refine OW_neq rfl rfl ?_ | refine OW_not rfl ?_ | refine OW_pickT rfl _ rfl ?_ | refine OW_pickF rfl (.bool _) rfl ?_ | refine OW_pickB rfl rfl rfl ?_ | refine OW_move ?_ | refine OW_assign ?_ | refine OW_pass rfl ?_ | refine OW_take rfl ?_ | refine OW_lenS (by first | with_reducible exact und_bytes | with_reducible exact und_bytess) rfl ?_ | refine OW_convInt (by first | with_reducible exact und_u8 | with_reducible exact und_u64 | with_reducible exact und_int | with_reducible exact und_u32) (by first | with_reducible exact und_u8 | with_reducible exact und_u64 | with_reducible exact und_int | with_reducible exact und_u32) rfl ?_ | refine OW_add rfl rfl ?_ | refine OW_sub rfl rfl ?_ | refine OW_mul rfl rfl ?_ | refine OW_min2 rfl rfl ?_ | refine OW_max2 rfl rfl ?_ | refine OW_neg rfl ?_ | refine CW_block ?_ | refine CW_condT rfl ?_ | refine CW_condF rfl ?_ | refine CW_exit ?_ | refine CW_ret ?_ | refine CW_skip ?_ | refine LW_seq ?_ | refine LW_regC ?_ | refine LW_condC ?_ | refine LW_regF ?_ | refine LW_condF ?_ | refine FW_seq ?_ | refine FW_region (by kernel_rfl) ?_ | refine FW_block ?_ | refine FW_condT rfl ?_ | refine FW_condF rfl ?_ | refine FW_exit ?_ | refine FW_ret ?_ | refine FW_skip ?_ | refine LW_ret ?_ | refine LW_skip ?_ | refine thenE_exit ?_ | refine thenE_ret ?_ | refine inBlockE_normal ?_ | refine inBlockE_same ?_ | refine inBlockE_ret ?_ | refine inBlockE_ne (by rfl) ?_ | refine OW_eqlB (by with_reducible exact und_bool) rfl rfl ?_ | refine OW_neqB (by with_reducible exact und_bool) rfl rfl ?_ | refine OW_idxS (by with_reducible exact und_bytes) one_u8 rfl rfl _ rfl (by omega) ?_ | refine OW_idxS (by with_reducible exact und_bytess) one_bytes rfl rfl _ rfl (by omega) ?_ | refine OW_load1 (by first | with_reducible exact one_u8 | with_reducible exact one_bytes) rfl _ (by assumption) ?_)
         refine OW_nil ?_
         exact stay_mk _ _ _ _)
    | (apply OY_q _ rfl
       · intro wd hwd
         (first | refine OW_fieldB fldo_E0 rfl ?_ | refine OW_fieldB fldo_E1 rfl ?_ | refine OW_fieldB fldo_E2 rfl ?_ | refine OW_fieldB fldo_E3 rfl ?_ | refine OW_nilCheck rfl ?_ | refine OW_lenS und_ints rfl ?_ | refine OW_lenS und_As rfl ?_ | refine OW_idxN und_As el_A rfl rfl _ rfl (by omega) ?_ | refine OW_neqF rfl rfl rfl ?_ | refine OW_moveV (.int _ _) rfl ?_ | refine OW_moveV (.slice _ _ _) rfl ?_ | refine OW_moveV (.bool _) rfl ?_ | refine OW_moveV (.pointer _) rfl ?_ | refine OW_moveV (.string _) rfl ?_ | refine OW_moveV (.agg _) rfl ?_ | refine OW_moveV (.tuple _) rfl ?_ | refine OW_nil ?_ | refine thenE_normal ?_ | refine CW_seq ?_ | refine CW_region (by kernel_rfl) ?_ | refine OW_assignV (.int _ _) rfl ?_ | refine OW_assignV (.slice _ _ _) rfl ?_ | refine OW_assignV (.bool _) rfl ?_ | refine OW_assignV (.pointer _) rfl ?_ | refine OW_assignV (.string _) rfl ?_ | refine OW_assignV (.agg _) rfl ?_ | refine OW_assignV (.tuple _) rfl ?_ | refine OW_addI rfl rfl (by omega) ?_ | refine OW_subI rfl rfl (by omega) ?_ | refine OW_mulI rfl rfl (by omega) ?_ | refine OW_lss rfl rfl ?_ | refine OW_extract rfl rfl ?_ | refine OW_gtr rfl rfl ?_ | refine OW_leq rfl rfl ?_ | refine OW_geq rfl rfl ?_ | refine OW_eql rfl rfl ?_ | refine OW_neq rfl rfl ?_ | refine OW_not rfl ?_ | refine OW_pickT rfl _ rfl ?_ | refine OW_pickF rfl (.bool _) rfl ?_ | refine OW_pickB rfl rfl rfl ?_ | refine OW_move ?_ | refine OW_assign ?_ | refine OW_pass rfl ?_ | refine OW_take rfl ?_ | refine OW_lenS (by first | with_reducible exact und_bytes | with_reducible exact und_bytess) rfl ?_ | refine OW_convInt (by first | with_reducible exact und_u8 | with_reducible exact und_u64 | with_reducible exact und_int | with_reducible exact und_u32) (by first | with_reducible exact und_u8 | with_reducible exact und_u64 | with_reducible exact und_int | with_reducible exact und_u32) rfl ?_ | refine OW_add rfl rfl ?_ | refine OW_sub rfl rfl ?_ | refine OW_mul rfl rfl ?_ | refine OW_min2 rfl rfl ?_ | refine OW_max2 rfl rfl ?_ | refine OW_neg rfl ?_ | refine CW_block ?_ | refine CW_condT rfl ?_ | refine CW_condF rfl ?_ | refine CW_exit ?_ | refine CW_ret ?_ | refine CW_skip ?_ | refine LW_seq ?_ | refine LW_regC ?_ | refine LW_condC ?_ | refine LW_regF ?_ | refine LW_condF ?_ | refine FW_seq ?_ | refine FW_region (by kernel_rfl) ?_ | refine FW_block ?_ | refine FW_condT rfl ?_ | refine FW_condF rfl ?_ | refine FW_exit ?_ | refine FW_ret ?_ | refine FW_skip ?_ | refine LW_ret ?_ | refine LW_skip ?_ | refine thenE_exit ?_ | refine thenE_ret ?_ | refine inBlockE_normal ?_ | refine inBlockE_same ?_ | refine inBlockE_ret ?_ | refine inBlockE_ne (by rfl) ?_ | refine OW_eqlB (by with_reducible exact und_bool) rfl rfl ?_ | refine OW_neqB (by with_reducible exact und_bool) rfl rfl ?_ | refine OW_idxS (by with_reducible exact und_bytes) one_u8 rfl rfl _ rfl (by omega) ?_ | refine OW_idxS (by with_reducible exact und_bytess) one_bytes rfl rfl _ rfl (by omega) ?_ | refine OW_load1 (by first | with_reducible exact one_u8 | with_reducible exact one_bytes) rfl _ (by assumption) ?_ | (refine OW_isLoad ?_; refine OW_loadBk (by first | with_reducible exact one_u8 | with_reducible exact one_bytes | with_reducible exact one_bool | with_reducible exact one_int | with_reducible exact one_errno | with_reducible exact one_u32 | with_reducible exact one_u64 | with_reducible exact one_string | with_reducible exact s_int | with_reducible exact s_bool | with_reducible exact one_ints) rfl (by apply_assumption; assumption) _ (by first | assumption | rfl) ?_) | refine OW_load1 (by first | with_reducible exact one_u8 | with_reducible exact one_bytes | with_reducible exact one_bool | with_reducible exact one_int | with_reducible exact one_errno | with_reducible exact one_u32 | with_reducible exact one_u64 | with_reducible exact one_string | with_reducible exact s_int | with_reducible exact s_bool | with_reducible exact one_ints) rfl _ (by apply_assumption; assumption) ?_)
         refine OW_nil ?_
         exact stay_mk _ _ _ _)
    | refine OY_ppass rfl rfl ?_
    | refine OY_qpass rfl rfl ?_
    | (apply OY_ptake _ rfl rfl
       · intro wd
         (first | refine OW_fieldB fldo_E0 rfl ?_ | refine OW_fieldB fldo_E1 rfl ?_ | refine OW_fieldB fldo_E2 rfl ?_ | refine OW_fieldB fldo_E3 rfl ?_ | refine OW_nilCheck rfl ?_ | refine OW_lenS und_ints rfl ?_ | refine OW_lenS und_As rfl ?_ | refine OW_idxN und_As el_A rfl rfl _ rfl (by omega) ?_ | refine OW_neqF rfl rfl rfl ?_ | refine OW_moveV (.int _ _) rfl ?_ | refine OW_moveV (.slice _ _ _) rfl ?_ | refine OW_moveV (.bool _) rfl ?_ | refine OW_moveV (.pointer _) rfl ?_ | refine OW_moveV (.string _) rfl ?_ | refine OW_moveV (.agg _) rfl ?_ | refine OW_moveV (.tuple _) rfl ?_ | refine OW_nil ?_ | refine thenE_normal ?_ | refine CW_seq ?_ | refine CW_region (by kernel_rfl) ?_ | refine OW_assignV (.int _ _) rfl ?_ | refine OW_assignV (.slice _ _ _) rfl ?_ | refine OW_assignV (.bool _) rfl ?_ | refine OW_assignV (.pointer _) rfl ?_ | refine OW_assignV (.string _) rfl ?_ | refine OW_assignV (.agg _) rfl ?_ | refine OW_assignV (.tuple _) rfl ?_ | refine OW_addI rfl rfl (by omega) ?_ | refine OW_subI rfl rfl (by omega) ?_ | refine OW_mulI rfl rfl (by omega) ?_ | refine OW_lss rfl rfl ?_ | refine OW_extract rfl rfl ?_ | refine OW_gtr rfl rfl ?_ | refine OW_leq rfl rfl ?_ | refine OW_geq rfl rfl ?_ | refine OW_eql rfl rfl ?_ | refine OW_neq rfl rfl ?_ | refine OW_not rfl ?_ | refine OW_pickT rfl _ rfl ?_ | refine OW_pickF rfl (.bool _) rfl ?_ | refine OW_pickB rfl rfl rfl ?_ | refine OW_move ?_ | refine OW_assign ?_ | refine OW_pass rfl ?_ | refine OW_take rfl ?_ | refine OW_lenS (by first | with_reducible exact und_bytes | with_reducible exact und_bytess) rfl ?_ | refine OW_convInt (by first | with_reducible exact und_u8 | with_reducible exact und_u64 | with_reducible exact und_int | with_reducible exact und_u32) (by first | with_reducible exact und_u8 | with_reducible exact und_u64 | with_reducible exact und_int | with_reducible exact und_u32) rfl ?_ | refine OW_add rfl rfl ?_ | refine OW_sub rfl rfl ?_ | refine OW_mul rfl rfl ?_ | refine OW_min2 rfl rfl ?_ | refine OW_max2 rfl rfl ?_ | refine OW_neg rfl ?_ | refine CW_block ?_ | refine CW_condT rfl ?_ | refine CW_condF rfl ?_ | refine CW_exit ?_ | refine CW_ret ?_ | refine CW_skip ?_ | refine LW_seq ?_ | refine LW_regC ?_ | refine LW_condC ?_ | refine LW_regF ?_ | refine LW_condF ?_ | refine FW_seq ?_ | refine FW_region (by kernel_rfl) ?_ | refine FW_block ?_ | refine FW_condT rfl ?_ | refine FW_condF rfl ?_ | refine FW_exit ?_ | refine FW_ret ?_ | refine FW_skip ?_ | refine LW_ret ?_ | refine LW_skip ?_ | refine thenE_exit ?_ | refine thenE_ret ?_ | refine inBlockE_normal ?_ | refine inBlockE_same ?_ | refine inBlockE_ret ?_ | refine inBlockE_ne (by rfl) ?_ | refine OW_eqlB (by with_reducible exact und_bool) rfl rfl ?_ | refine OW_neqB (by with_reducible exact und_bool) rfl rfl ?_ | refine OW_idxS (by with_reducible exact und_bytes) one_u8 rfl rfl _ rfl (by omega) ?_ | refine OW_idxS (by with_reducible exact und_bytess) one_bytes rfl rfl _ rfl (by omega) ?_ | refine OW_load1 (by first | with_reducible exact one_u8 | with_reducible exact one_bytes) rfl _ (by assumption) ?_)
         refine OW_nil ?_
         exact stay_mk _ _ _ _)
    | (apply OY_qtake _ rfl rfl
       · intro wd hwd
         (first | refine OW_fieldB fldo_E0 rfl ?_ | refine OW_fieldB fldo_E1 rfl ?_ | refine OW_fieldB fldo_E2 rfl ?_ | refine OW_fieldB fldo_E3 rfl ?_ | refine OW_nilCheck rfl ?_ | refine OW_lenS und_ints rfl ?_ | refine OW_lenS und_As rfl ?_ | refine OW_idxN und_As el_A rfl rfl _ rfl (by omega) ?_ | refine OW_neqF rfl rfl rfl ?_ | refine OW_moveV (.int _ _) rfl ?_ | refine OW_moveV (.slice _ _ _) rfl ?_ | refine OW_moveV (.bool _) rfl ?_ | refine OW_moveV (.pointer _) rfl ?_ | refine OW_moveV (.string _) rfl ?_ | refine OW_moveV (.agg _) rfl ?_ | refine OW_moveV (.tuple _) rfl ?_ | refine OW_nil ?_ | refine thenE_normal ?_ | refine CW_seq ?_ | refine CW_region (by kernel_rfl) ?_ | refine OW_assignV (.int _ _) rfl ?_ | refine OW_assignV (.slice _ _ _) rfl ?_ | refine OW_assignV (.bool _) rfl ?_ | refine OW_assignV (.pointer _) rfl ?_ | refine OW_assignV (.string _) rfl ?_ | refine OW_assignV (.agg _) rfl ?_ | refine OW_assignV (.tuple _) rfl ?_ | refine OW_addI rfl rfl (by omega) ?_ | refine OW_subI rfl rfl (by omega) ?_ | refine OW_mulI rfl rfl (by omega) ?_ | refine OW_lss rfl rfl ?_ | refine OW_extract rfl rfl ?_ | refine OW_gtr rfl rfl ?_ | refine OW_leq rfl rfl ?_ | refine OW_geq rfl rfl ?_ | refine OW_eql rfl rfl ?_ | refine OW_neq rfl rfl ?_ | refine OW_not rfl ?_ | refine OW_pickT rfl _ rfl ?_ | refine OW_pickF rfl (.bool _) rfl ?_ | refine OW_pickB rfl rfl rfl ?_ | refine OW_move ?_ | refine OW_assign ?_ | refine OW_pass rfl ?_ | refine OW_take rfl ?_ | refine OW_lenS (by first | with_reducible exact und_bytes | with_reducible exact und_bytess) rfl ?_ | refine OW_convInt (by first | with_reducible exact und_u8 | with_reducible exact und_u64 | with_reducible exact und_int | with_reducible exact und_u32) (by first | with_reducible exact und_u8 | with_reducible exact und_u64 | with_reducible exact und_int | with_reducible exact und_u32) rfl ?_ | refine OW_add rfl rfl ?_ | refine OW_sub rfl rfl ?_ | refine OW_mul rfl rfl ?_ | refine OW_min2 rfl rfl ?_ | refine OW_max2 rfl rfl ?_ | refine OW_neg rfl ?_ | refine CW_block ?_ | refine CW_condT rfl ?_ | refine CW_condF rfl ?_ | refine CW_exit ?_ | refine CW_ret ?_ | refine CW_skip ?_ | refine LW_seq ?_ | refine LW_regC ?_ | refine LW_condC ?_ | refine LW_regF ?_ | refine LW_condF ?_ | refine FW_seq ?_ | refine FW_region (by kernel_rfl) ?_ | refine FW_block ?_ | refine FW_condT rfl ?_ | refine FW_condF rfl ?_ | refine FW_exit ?_ | refine FW_ret ?_ | refine FW_skip ?_ | refine LW_ret ?_ | refine LW_skip ?_ | refine thenE_exit ?_ | refine thenE_ret ?_ | refine inBlockE_normal ?_ | refine inBlockE_same ?_ | refine inBlockE_ret ?_ | refine inBlockE_ne (by rfl) ?_ | refine OW_eqlB (by with_reducible exact und_bool) rfl rfl ?_ | refine OW_neqB (by with_reducible exact und_bool) rfl rfl ?_ | refine OW_idxS (by with_reducible exact und_bytes) one_u8 rfl rfl _ rfl (by omega) ?_ | refine OW_idxS (by with_reducible exact und_bytess) one_bytes rfl rfl _ rfl (by omega) ?_ | refine OW_load1 (by first | with_reducible exact one_u8 | with_reducible exact one_bytes) rfl _ (by assumption) ?_ | (refine OW_isLoad ?_; refine OW_loadBk (by first | with_reducible exact one_u8 | with_reducible exact one_bytes | with_reducible exact one_bool | with_reducible exact one_int | with_reducible exact one_errno | with_reducible exact one_u32 | with_reducible exact one_u64 | with_reducible exact one_string | with_reducible exact s_int | with_reducible exact s_bool | with_reducible exact one_ints) rfl (by apply_assumption; assumption) _ (by first | assumption | rfl) ?_) | refine OW_load1 (by first | with_reducible exact one_u8 | with_reducible exact one_bytes | with_reducible exact one_bool | with_reducible exact one_int | with_reducible exact one_errno | with_reducible exact one_u32 | with_reducible exact one_u64 | with_reducible exact one_string | with_reducible exact s_int | with_reducible exact s_bool | with_reducible exact one_ints) rfl _ (by apply_assumption; assumption) ?_)
         refine OW_nil ?_
         exact stay_mk _ _ _ _)
    | refine OY_a (actY_of rfl ?_)
    | refine OY_d (actY_of rfl ?_)
    | refine OY_a (actY_pass rfl rfl ?_)
    | refine OY_d (actY_pass rfl rfl ?_)
    | refine OY_a (actY_take rfl rfl ?_)
    | refine OY_d (actY_take rfl rfl ?_))
  exact hEnd.out) (k : B) : A := h ⟨k⟩
set_option maxHeartbeats 8000000 in
theorem walk (w : World) (v0 : Value) (l : List AD) (h0 : kActs.R w [v0] l) : Calls Try.prog 4 #[v0] w (RetV w (.bool true)) := by
  obtain ⟨A, c, hv0, hc, hcm, hA⟩ := h0
  have hA : ACs w A l := hA
  injection hv0 with hv0
  subst hv0
  refine calls_of_CW Try.func4 rfl (by simp [Try.ntmps4]) ?_
  rw [Try.ntmps4]
  refine go_LDiskPlays (k := ?_)
  refine OW_callV Try.func13 (by kernel_rfl) rfl (great6_any w A c l hA (by omega)) rfl ?_
  intro w2 hx2
  refine go_LDiskPlays (k := ?_)
  refine CW_cond _ rfl (fun h => ?_) (fun h => ?_)
  · refine go_LDiskPlays (k := ?_)
    exact bodyE_ret1 rfl (.bool true) rfl ⟨rfl, hx2⟩
  have hgs : asum 20 l ≤ 4000 := by have := of_decide_eq_false h; omega
  clear h
  have hll := asum_len 20 l
  refine go_LDiskPlays (k := ?_)
  refine OW_callC Try.func23 (by kernel_rfl) rfl (newDisk_any w2) rfl ?_
  rintro en w3 ⟨g, rfl, hg, hx3, hR3⟩
  refine ⟨_, rfl, ?_⟩
  have hlo3 : ∀ k, more (fun _ => False) w2 w3 k → w.heap.size ≤ k := fun k hk => by rcases hk with h | h; exact h.elim; have := hx2.size; omega
  generalize more (fun _ => False) w2 w3 = S3 at *
  refine go_LDiskPlays (k := ?_)
  refine OW_build _ _ bld_E rfl ?_
  refine go_LDiskPlays (k := ?_)
  refine OW_box _ rfl ?_
  intro w4 g2 hb4 hg2 hl2 hx4
  have hb4 : Blk w4 g2 45 #[.slice none 0 0, .int .i64 0, .slice none 0 0, .bool false] := hb4
  have hx04 := (hx2.trans' hx3).trans' hx4
  have hT4 : TwoD w w4 g g2 dNew dNew := by
    refine ⟨S3, (· = g2), hR3.ext hx4, ⟨rfl, ⟨none, 0, none, 0, hb4, ⟨Bs.nil _ _, Nat.le_refl _, fun ad h => (by cases h)⟩, ⟨World.ownsRow_nil _ _ _ _, fun ad h => (by cases h)⟩⟩, fun k hk => by rw [hk]; exact hl2⟩, fun k hk hh => ?_, hlo3, fun k hk => ?_, hx04⟩
    · have := hR3.bd k hk; omega
    · have := (hx2.trans' hx3).size; omega
  clear hR3 hlo3 hb4
  refine go_LDiskPlays (k := ?_)
  refine CW_loop (fun e' w' => ∃ (i : Nat) (d : DS), i ≤ l.length + 1 ∧ e' 0 = .slice A l.length c ∧ e' 3 = .pointer (some ⟨g, 0, none⟩) ∧ e' 4 = .pointer (some ⟨g2, 0, none⟩) ∧ e' 5 = .int .i64 i ∧ d.all.length ≤ 4000 + i ∧ d.ws.length ≤ i ∧ (i ≤ l.length → d.all.length ≤ asum 20 (l.take i)) ∧ TwoD w w' g g2 d d) (fun e' _ => l.length + 1 - (intOf (e' 5)).toNat) ?_ ?_
  · exact ⟨0, dNew, by omega, rfl, rfl, rfl, rfl, Nat.zero_le _, Nat.zero_le _, fun _ => Nat.zero_le _, hT4⟩
  clear hT4
  rintro e5 w5 ⟨i, d, hi, q0, q3, q4, q5, hal, hwl, hal2, hT⟩
  rw [upd_self q0, upd_self q3, upd_self q4, upd_self q5]
  refine go_LDiskPlays (k := ?_)
  refine CW_cond _ rfl (fun hh => ?_) (fun hh => ?_)
  · have hle : i ≤ l.length := by have := of_decide_eq_true hh; omega
    clear hh
    have hal3 := hal2 hle
    have hsl0 := asum_take_le 20 l i
    refine go_LDiskPlays (k := ?_)
    refine OW_callC Try.func19 (by kernel_rfl) rfl (hT.useD fun S h => dBytes_any w5 g S d h (by omega) (by omega)) rfl ?_
    rintro en w6 ⟨A6, c6, rfl, hc6, hf6, hx6⟩
    refine ⟨_, rfl, ?_⟩
    have hT6 := hT.ext hx6
    obtain ⟨AE, cE, EE, cEE, hbE, hbsE, hcE⟩ := hT6.cellE
    refine go_LDiskPlays (k := ?_)
    obtain ⟨C, hC⟩ : ∃ C : World → Prop, C = fun v => Ext w6 v := ⟨_, rfl⟩
    have y_hbE := blkE hC hbE
    refine CW_tree2 [4, 13, 22, 32] (.p 0 (.p 1 (.p 2 (.p 3 (.q 4 (.d 5 (.p 6 (.p 7 (.p 8 (.p 10 (.p 11 (.p 12 (.q 13 (.a 9 (.p 14 (.p 15 (.p 16 (.p 17 (.p 19 (.p 20 (.p 21 (.q 22 (.p 23 (.a 18 (.p 24 (.p 25 (.p 26 (.p 27 (.p 29 (.p 30 (.p 31 (.q 32 (.a 28 (.p 33 (.p 34 .done))))))))))))))))))))))))))))))))))) (C) (by kernel_rfl) (by kernel_rfl) (by kernel_rfl) ?_ ?_
    · exact inE hC
    intro w7 hx7 h_C
    refine oy_LDiskPlays (k := ?_)
    refine OW_callV Try.func24 (by kernel_rfl) rfl (refSame_any w7 A6 AE d.all d.all c6 cE (hf6.bs.ext hx7) (hbsE.ext hx7) (by omega)) rfl ?_
    intro w8 hx8
    rw [beq_self_eq_true]
    have hx68 := hx7.trans' hx8
    first | refine OW_nil (goY_mkE hC (hx68) ?_) | refine OW_nil (goY_dropE hC (hx68) ?_)
    refine oy_LDiskPlays (k := ?_)
    refine OW_callV Try.func20 (by kernel_rfl) rfl ((hT6.ext hx68).useD fun S h => dSynced_any w8 g S d h) rfl ?_
    intro w9 hx9
    have hx69 := hx68.trans' hx9
    first | refine OW_nil (goY_mkE hC (hx69) ?_) | refine OW_nil (goY_dropE hC (hx69) ?_)
    refine oy_LDiskPlays (k := ?_)
    refine OW_callV Try.func21 (by kernel_rfl) rfl ((hT6.ext hx69).useD fun S h => dWrites_any w9 g S d h) rfl ?_
    intro w10 hx10
    have hx610 := hx69.trans' hx10
    first | refine OW_nil (goY_mkE hC (hx610) ?_) | refine OW_nil (goY_dropE hC (hx610) ?_)
    refine oy_LDiskPlays (k := ?_)
    refine OW_callV Try.func22 (by kernel_rfl) rfl ((hT6.ext hx610).useD fun S h => dUp_any w10 g S d h) rfl ?_
    intro w11 hx11
    have hx611 := hx610.trans' hx11
    first | refine OW_nil (goY_mkE hC (hx611) ?_) | refine OW_nil (goY_dropE hC (hx611) ?_)
    refine oy_LDiskPlays (k := ?_)
    obtain ⟨S, S2, h1, h2, h3, h4, h5, h6⟩ := hT
    have bd1 := h1.bd
    have bd2 := h2.bd
    have hx511 := hx6.trans' hx611
    have hf11 := hf6.ext hx611
    replace h1 := h1.ext hx511
    replace h2 := h2.ext hx511
    clear hT6 hbE hbsE hf6
    rw [show (d.up == !d.up) = false by simp]
    refine go_LDiskPlays (k := ?_)
    refine CW_meetB (fun e' w' => e' 0 = .slice A l.length c ∧ e' 3 = .pointer (some ⟨g, 0, none⟩) ∧ e' 4 = .pointer (some ⟨g2, 0, none⟩) ∧ e' 5 = .int .i64 i ∧ Keeps w11 w' (fun k => w5.heap.size ≤ k)) ?_ ?_
    · refine CW_loop (fun e' w' => ∃ (k : Nat) (zs : List UInt8), k ≤ d.all.length ∧ zs.length = d.all.length ∧ e' 0 = .slice A l.length c ∧ e' 3 = .pointer (some ⟨g, 0, none⟩) ∧ e' 4 = .pointer (some ⟨g2, 0, none⟩) ∧ e' 5 = .int .i64 i ∧ e' 6 = .slice A6 d.all.length c6 ∧ e' 7 = .int .i64 k ∧ FreB w' w5.heap.size A6 zs ∧ Keeps w11 w' (fun k => w5.heap.size ≤ k)) (fun e' _ => d.all.length - (intOf (e' 7)).toNat) ?_ ?_
      · exact ⟨0, d.all, by omega, rfl, rfl, rfl, rfl, rfl, rfl, rfl, hf11, Keeps.rfl' _ _⟩
      rintro e12 w12 ⟨k, zs, hk, hz, q0, q3, q4, q5, q6, q7, hF, hK⟩
      rw [upd_self q0, upd_self q3, upd_self q4, upd_self q5, upd_self q6, upd_self q7]
      refine go_LDiskPlays (k := ?_)
      refine CW_cond _ rfl (fun hh => ?_) (fun hh => ?_)
      · have hlt : k < d.all.length := by simpa using hh
        clear hh
        obtain ⟨gb, rfl, hgb, hc, hfz, hF2, hg2⟩ := hF.put (k := k) (by omega) (zs[k]'(by omega) + 1)
        have hcell : w12.cell? ((⟨gb, 0, none⟩ : Addr).add k) = some (bv (zs[k]'(by omega))) := by rw [add0]; exact hc
        refine go_LDiskPlays (k := ?_)
        rw [inc_u8]
        refine go_LDiskPlays (k := ?_)
        rw [add0] at hcell ⊢
        refine OW_store1 one_u8 rfl (bv (zs[k]'(by omega) + 1)) (bv (zs[k]'(by omega))) rfl rfl hcell hfz ?_
        refine go_LDiskPlays (k := ?_)
        refine ⟨⟨k + 1, _, by omega, by rw [List.length_set]; exact hz, rfl, rfl, rfl, rfl, rfl, rfl, hF2, hK.trans' (Keeps.of_only hg2 hgb)⟩, ?_⟩
        show d.all.length - ((k : Int) + 1).toNat < d.all.length - (k : Int).toNat
        omega
      · refine go_LDiskPlays (k := ?_)
        exact ⟨rfl, rfl, rfl, rfl, rfl, hK⟩
    rintro e12 w12 ⟨q0, q3, q4, q5, hK⟩
    rw [upd_self q0, upd_self q3, upd_self q4, upd_self q5]
    have hx12 : Ext w w12 := hK.ext (h6.trans' hx511) (fun k hk => by have := h6.size; omega)
    have hT12 : TwoD w w12 g g2 d d := ⟨S, S2, h1.keeps hK (fun k hk hh => by have := bd1 k hk; omega), h2.keeps hK (fun k hk hh => by have := bd2 k hk; omega), h3, h4, h5, hx12⟩
    clear h1 h2 hK hf11
    refine go_LDiskPlays (k := ?_)
    refine OW_split 72 _ rfl (fun hh => ?_) (fun hh => ?_)
    · have hlt : i < l.length := by simpa using hh
      clear hh
      obtain ⟨ad, A', c', rfl, hat, hok⟩ := hA.get hlt
      have hs := asum_take_succ (k := 20) hlt
      have hsl := asum_take_le 20 l (i + 1)
      have hact := dAll_len_act d l[i]
      generalize l[i] = f at *
      refine go_LDiskPlays (k := ?_)
      refine OW_loadX agg_A rfl (acells f (.slice A' f.B.length c')) rfl (hat.ext hx12) ?_
      refine go_LDiskPlays (k := ?_)
      refine OW_callC Try.func25 (by kernel_rfl) rfl (one6_any w w12 g g2 d hT12 f A' c' hok (by omega) (by omega)) rfl ?_
      rintro en w13 ⟨rfl, hT13⟩
      refine ⟨_, rfl, ?_⟩
      refine go_LDiskPlays (k := ?_)
      refine ⟨⟨i + 1, (dAct d f).2, by omega, rfl, rfl, rfl, rfl, by omega, by omega, fun _ => by omega, hT13⟩, ?_⟩
      show l.length + 1 - ((i : Int) + 1).toNat < l.length + 1 - (i : Int).toNat
      omega
    · refine go_LDiskPlays (k := ?_)
      have hnl : ¬ i < l.length := by simpa using hh
      refine ⟨⟨i + 1, d, by omega, rfl, rfl, rfl, rfl, by omega, by omega, fun h => absurd h (by omega), hT12⟩, ?_⟩
      show l.length + 1 - ((i : Int) + 1).toNat < l.length + 1 - (i : Int).toNat
      omega
  · refine go_LDiskPlays (k := ?_)
    exact bodyE_ret1 rfl (.bool true) rfl ⟨rfl, hT.to⟩
set_option maxRecDepth 100000 in
theorem lifted (os : Os) (started : os.Started) (H : Type) (enc : TypeId × Value → H) :
    ReturnsInHanded {} Try.checked os 4 .any (Rows.diskPlaysSpec.pre6 enc Try.prog Try.f4 Rows.diskPlaysRow.domain false) (Rows.diskPlaysSpec.post enc Try.prog Try.f4 false true false false) := by
  refine returnsInHanded_of_change_sized (C := Try.checked) ownP started (by kernel_rfl) Try.func4
    (ChangeSpec.witness6 (enc := enc) (C := Try.checked) false ⟨#[], #[.slice none 0 0], []⟩ 8 (by kernel_rfl) (by kernel_rfl) (by kernel_rfl) (by kernel_rfl)) ?_
  intro W base args ds gs before hval0 hW hcnd hwt0 _
  have hval : ∀ (j : Nat) t v, Try.f4.params[j]? = some t → args[j]? = some v → Value.okWide Try.prog W .any base t v := hval0
  have hW' := hW
  obtain ⟨p, q, hA0, hV, rfl, hfz, hnd⟩ := hW
  have hA : DataW.TrodAll enc Try.prog W 0 (fun _ => true) true Try.f4.params.toList args.toList ds p := hA0
  have hwt : (DataW.weightsEach Try.prog (Try.f4.params.toList ++ []) (ds ++ gs)).all (· ≤ reachBytes) = true := hwt0
  rw [Try.params4] at hA hval hwt
  obtain ⟨v0, vs0, d0, ds0, p0, q0, hargs, rfl, rfl, h0, r0⟩ := trodAll_cons hA
  obtain ⟨rfl, rfl, rfl⟩ := trodAll_nil r0
  obtain rfl : args = #[v0] := by cases args; simp_all
  obtain ⟨rfl, rfl⟩ := trodVars_none hV
  have k0 := h0
  have lt0 : ∀ x ∈ p0, x.block < W.heap.size := by obtain ⟨m, hm⟩ := k0; exact DataW.trod_lt m _ _ _ hm
  have wk0 : WOk Try.prog 26 d0 := wok_each hwt 0 rfl rfl
  obtain ⟨a0, b0⟩ := kd_slice kActs und_As (hval 0 26 v0 rfl rfl) h0 wk0
  clear hA0 hval0 hwt0
  refine (walk W v0 a0 b0).mono fun e W' ⟨he, bel⟩ => ?_
  subst he
  exact ⟨_, rfl, _, _, _, [], _, [], hW', trodAll_mk1 (shut_bool Try.underlying4 _), (trodAll_cons_mk (Below.trod laidP (by kernel_rfl) (of_decide_eq_true (by kernel_rfl)) k0 bel lt0) trodAll_mk0), rfl, bel.frame _, fun h => by cases h⟩
theorem over : Rows.diskPlaysRow.holds Try.pinned (OpenSpec.ofChange Rows.diskPlaysSpec) :=
  OpenClaim.holds_of_wide 4 Try.f4 rfl rfl rfl rfl rfl rfl rfl ⟨rfl, rfl, rfl, rfl, rfl⟩ rfl rfl rfl rfl rfl (by kernel_rfl) Try.func4 (by kernel_rfl)
    (of_decide_eq_true (by kernel_rfl)) (by unfold Func.isWrapper; first | (rw [if_pos (by decide +kernel)]; kernel_rfl) | (rw [if_neg (by decide +kernel)]; exact ⟨rfl, rfl⟩))
    (fun os started H enc _ => lifted os started H enc)
theorem proved : Rows.DiskPlaysSaid := over
#print axioms proved
end Go.Proofs.Ytkidofecahaajaa.lawDiskPlays
