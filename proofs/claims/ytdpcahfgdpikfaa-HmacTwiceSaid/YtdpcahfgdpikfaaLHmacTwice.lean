/- HmacTwice: the HMAC is a tag of a tag. No condition. -/
import Derived.Test.YtdpcahfgdpikfaaHm5
namespace Go.Proofs.Ytdpcahfgdpikfaa.lawHmacTwice
open Go.ChangeShapes Go.WideShapes Go.ChangeAt Go.RowKit
set_option linter.unusedVariables false
set_option maxRecDepth 4000
theorem go_LHmacTwice {A B : Prop} (h : Held B → A := by
  intro hEnd
  repeat (first | refine OW_sliceP h_slp_Tag rfl ?_ | (refine OW_isLoad ?_; refine OW_loadT s_agg_Tag rfl (by apply_assumption; assumption) (by assumption) ?_) | refine OW_eqlRT s_eqr_Tag rfl rfl (by assumption) ?_ | refine OW_idxSI und_bytes one_u8 rfl rfl (by omega) (by omega) ?_ | refine OW_moveV (.int _ _) rfl ?_ | refine OW_moveV (.slice _ _ _) rfl ?_ | refine OW_moveV (.bool _) rfl ?_ | refine OW_moveV (.pointer _) rfl ?_ | refine OW_moveV (.string _) rfl ?_ | refine OW_moveV (.agg _) rfl ?_ | refine OW_moveV (.tuple _) rfl ?_ | refine OW_nil ?_ | refine thenE_normal ?_ | refine CW_seq ?_ | refine CW_region (by kernel_rfl) ?_ | refine OW_assignV (.int _ _) rfl ?_ | refine OW_assignV (.slice _ _ _) rfl ?_ | refine OW_assignV (.bool _) rfl ?_ | refine OW_assignV (.pointer _) rfl ?_ | refine OW_assignV (.string _) rfl ?_ | refine OW_assignV (.agg _) rfl ?_ | refine OW_assignV (.tuple _) rfl ?_ | refine OW_addI rfl rfl (by omega) ?_ | refine OW_subI rfl rfl (by omega) ?_ | refine OW_mulI rfl rfl (by omega) ?_ | refine OW_lss rfl rfl ?_ | refine OW_extract rfl rfl ?_ | refine OW_gtr rfl rfl ?_ | refine OW_leq rfl rfl ?_ | refine OW_geq rfl rfl ?_ | refine OW_eql rfl rfl ?_ | refine OW_neq rfl rfl ?_ | refine OW_not rfl ?_ | refine OW_pickT rfl _ rfl ?_ | refine OW_pickF rfl (.bool _) rfl ?_ | refine OW_pickB rfl rfl rfl ?_ | refine OW_move ?_ | refine OW_assign ?_ | refine OW_pass rfl ?_ | refine OW_take rfl ?_ | refine OW_lenS (by first | with_reducible exact und_bytes | with_reducible exact und_bytess) rfl ?_ | refine OW_convInt (by first | with_reducible exact und_u8 | with_reducible exact und_u64 | with_reducible exact und_int | with_reducible exact und_u32) (by first | with_reducible exact und_u8 | with_reducible exact und_u64 | with_reducible exact und_int | with_reducible exact und_u32) rfl ?_ | refine OW_add rfl rfl ?_ | refine OW_sub rfl rfl ?_ | refine OW_mul rfl rfl ?_ | refine OW_min2 rfl rfl ?_ | refine OW_max2 rfl rfl ?_ | refine OW_neg rfl ?_ | refine CW_block ?_ | refine CW_condT rfl ?_ | refine CW_condF rfl ?_ | refine CW_exit ?_ | refine CW_ret ?_ | refine CW_skip ?_ | refine LW_seq ?_ | refine LW_regC ?_ | refine LW_condC ?_ | refine LW_regF ?_ | refine LW_condF ?_ | refine FW_seq ?_ | refine FW_region (by kernel_rfl) ?_ | refine FW_block ?_ | refine FW_condT rfl ?_ | refine FW_condF rfl ?_ | refine FW_exit ?_ | refine FW_ret ?_ | refine FW_skip ?_ | refine LW_ret ?_ | refine LW_skip ?_ | refine thenE_exit ?_ | refine thenE_ret ?_ | refine inBlockE_normal ?_ | refine inBlockE_same ?_ | refine inBlockE_ret ?_ | refine inBlockE_ne (by rfl) ?_ | refine OW_eqlB (by with_reducible exact und_bool) rfl rfl ?_ | refine OW_neqB (by with_reducible exact und_bool) rfl rfl ?_ | refine OW_idxS (by with_reducible exact und_bytes) one_u8 rfl rfl _ rfl (by omega) ?_ | refine OW_idxS (by with_reducible exact und_bytess) one_bytes rfl rfl _ rfl (by omega) ?_ | refine OW_load1 (by first | with_reducible exact one_u8 | with_reducible exact one_bytes) rfl _ (by assumption) ?_ | refine OW_xor rfl rfl _ (xor_bv _ _) ?_)
  exact hEnd.out) (k : B) : A := h ⟨k⟩
theorem oy_LHmacTwice {A B : Prop} (h : Held B → A := by
  intro hEnd
  repeat (first
    | refine OY_done ?_
    | (apply OY_p _ rfl
       · intro wd
         (first | refine OW_sliceP h_slp_Tag rfl ?_ | (refine OW_isLoad ?_; refine OW_loadT s_agg_Tag rfl (by apply_assumption; assumption) (by assumption) ?_) | refine OW_eqlRT s_eqr_Tag rfl rfl (by assumption) ?_ | refine OW_idxSI und_bytes one_u8 rfl rfl (by omega) (by omega) ?_ | refine OW_moveV (.int _ _) rfl ?_ | refine OW_moveV (.slice _ _ _) rfl ?_ | refine OW_moveV (.bool _) rfl ?_ | refine OW_moveV (.pointer _) rfl ?_ | refine OW_moveV (.string _) rfl ?_ | refine OW_moveV (.agg _) rfl ?_ | refine OW_moveV (.tuple _) rfl ?_ | refine OW_nil ?_ | refine thenE_normal ?_ | refine CW_seq ?_ | refine CW_region (by kernel_rfl) ?_ | refine OW_assignV (.int _ _) rfl ?_ | refine OW_assignV (.slice _ _ _) rfl ?_ | refine OW_assignV (.bool _) rfl ?_ | refine OW_assignV (.pointer _) rfl ?_ | refine OW_assignV (.string _) rfl ?_ | refine OW_assignV (.agg _) rfl ?_ | refine OW_assignV (.tuple _) rfl ?_ | refine OW_addI rfl rfl (by omega) ?_ | refine OW_subI rfl rfl (by omega) ?_ | refine OW_mulI rfl rfl (by omega) ?_ | refine OW_lss rfl rfl ?_ | refine OW_extract rfl rfl ?_ | refine OW_gtr rfl rfl ?_ | refine OW_leq rfl rfl ?_ | refine OW_geq rfl rfl ?_ | refine OW_eql rfl rfl ?_ | refine OW_neq rfl rfl ?_ | refine OW_not rfl ?_ | refine OW_pickT rfl _ rfl ?_ | refine OW_pickF rfl (.bool _) rfl ?_ | refine OW_pickB rfl rfl rfl ?_ | refine OW_move ?_ | refine OW_assign ?_ | refine OW_pass rfl ?_ | refine OW_take rfl ?_ | refine OW_lenS (by first | with_reducible exact und_bytes | with_reducible exact und_bytess) rfl ?_ | refine OW_convInt (by first | with_reducible exact und_u8 | with_reducible exact und_u64 | with_reducible exact und_int | with_reducible exact und_u32) (by first | with_reducible exact und_u8 | with_reducible exact und_u64 | with_reducible exact und_int | with_reducible exact und_u32) rfl ?_ | refine OW_add rfl rfl ?_ | refine OW_sub rfl rfl ?_ | refine OW_mul rfl rfl ?_ | refine OW_min2 rfl rfl ?_ | refine OW_max2 rfl rfl ?_ | refine OW_neg rfl ?_ | refine CW_block ?_ | refine CW_condT rfl ?_ | refine CW_condF rfl ?_ | refine CW_exit ?_ | refine CW_ret ?_ | refine CW_skip ?_ | refine LW_seq ?_ | refine LW_regC ?_ | refine LW_condC ?_ | refine LW_regF ?_ | refine LW_condF ?_ | refine FW_seq ?_ | refine FW_region (by kernel_rfl) ?_ | refine FW_block ?_ | refine FW_condT rfl ?_ | refine FW_condF rfl ?_ | refine FW_exit ?_ | refine FW_ret ?_ | refine FW_skip ?_ | refine LW_ret ?_ | refine LW_skip ?_ | refine thenE_exit ?_ | refine thenE_ret ?_ | refine inBlockE_normal ?_ | refine inBlockE_same ?_ | refine inBlockE_ret ?_ | refine inBlockE_ne (by rfl) ?_ | refine OW_eqlB (by with_reducible exact und_bool) rfl rfl ?_ | refine OW_neqB (by with_reducible exact und_bool) rfl rfl ?_ | refine OW_idxS (by with_reducible exact und_bytes) one_u8 rfl rfl _ rfl (by omega) ?_ | refine OW_idxS (by with_reducible exact und_bytess) one_bytes rfl rfl _ rfl (by omega) ?_ | refine OW_load1 (by first | with_reducible exact one_u8 | with_reducible exact one_bytes) rfl _ (by assumption) ?_ | refine OW_xor rfl rfl _ (xor_bv _ _) ?_)
         refine OW_nil ?_
         exact stay_mk _ _ _ _)
    | (apply OY_q _ rfl
       · intro wd hwd
         (first | refine OW_sliceP h_slp_Tag rfl ?_ | (refine OW_isLoad ?_; refine OW_loadT s_agg_Tag rfl (by apply_assumption; assumption) (by assumption) ?_) | refine OW_eqlRT s_eqr_Tag rfl rfl (by assumption) ?_ | refine OW_idxSI und_bytes one_u8 rfl rfl (by omega) (by omega) ?_ | refine OW_moveV (.int _ _) rfl ?_ | refine OW_moveV (.slice _ _ _) rfl ?_ | refine OW_moveV (.bool _) rfl ?_ | refine OW_moveV (.pointer _) rfl ?_ | refine OW_moveV (.string _) rfl ?_ | refine OW_moveV (.agg _) rfl ?_ | refine OW_moveV (.tuple _) rfl ?_ | refine OW_nil ?_ | refine thenE_normal ?_ | refine CW_seq ?_ | refine CW_region (by kernel_rfl) ?_ | refine OW_assignV (.int _ _) rfl ?_ | refine OW_assignV (.slice _ _ _) rfl ?_ | refine OW_assignV (.bool _) rfl ?_ | refine OW_assignV (.pointer _) rfl ?_ | refine OW_assignV (.string _) rfl ?_ | refine OW_assignV (.agg _) rfl ?_ | refine OW_assignV (.tuple _) rfl ?_ | refine OW_addI rfl rfl (by omega) ?_ | refine OW_subI rfl rfl (by omega) ?_ | refine OW_mulI rfl rfl (by omega) ?_ | refine OW_lss rfl rfl ?_ | refine OW_extract rfl rfl ?_ | refine OW_gtr rfl rfl ?_ | refine OW_leq rfl rfl ?_ | refine OW_geq rfl rfl ?_ | refine OW_eql rfl rfl ?_ | refine OW_neq rfl rfl ?_ | refine OW_not rfl ?_ | refine OW_pickT rfl _ rfl ?_ | refine OW_pickF rfl (.bool _) rfl ?_ | refine OW_pickB rfl rfl rfl ?_ | refine OW_move ?_ | refine OW_assign ?_ | refine OW_pass rfl ?_ | refine OW_take rfl ?_ | refine OW_lenS (by first | with_reducible exact und_bytes | with_reducible exact und_bytess) rfl ?_ | refine OW_convInt (by first | with_reducible exact und_u8 | with_reducible exact und_u64 | with_reducible exact und_int | with_reducible exact und_u32) (by first | with_reducible exact und_u8 | with_reducible exact und_u64 | with_reducible exact und_int | with_reducible exact und_u32) rfl ?_ | refine OW_add rfl rfl ?_ | refine OW_sub rfl rfl ?_ | refine OW_mul rfl rfl ?_ | refine OW_min2 rfl rfl ?_ | refine OW_max2 rfl rfl ?_ | refine OW_neg rfl ?_ | refine CW_block ?_ | refine CW_condT rfl ?_ | refine CW_condF rfl ?_ | refine CW_exit ?_ | refine CW_ret ?_ | refine CW_skip ?_ | refine LW_seq ?_ | refine LW_regC ?_ | refine LW_condC ?_ | refine LW_regF ?_ | refine LW_condF ?_ | refine FW_seq ?_ | refine FW_region (by kernel_rfl) ?_ | refine FW_block ?_ | refine FW_condT rfl ?_ | refine FW_condF rfl ?_ | refine FW_exit ?_ | refine FW_ret ?_ | refine FW_skip ?_ | refine LW_ret ?_ | refine LW_skip ?_ | refine thenE_exit ?_ | refine thenE_ret ?_ | refine inBlockE_normal ?_ | refine inBlockE_same ?_ | refine inBlockE_ret ?_ | refine inBlockE_ne (by rfl) ?_ | refine OW_eqlB (by with_reducible exact und_bool) rfl rfl ?_ | refine OW_neqB (by with_reducible exact und_bool) rfl rfl ?_ | refine OW_idxS (by with_reducible exact und_bytes) one_u8 rfl rfl _ rfl (by omega) ?_ | refine OW_idxS (by with_reducible exact und_bytess) one_bytes rfl rfl _ rfl (by omega) ?_ | refine OW_load1 (by first | with_reducible exact one_u8 | with_reducible exact one_bytes) rfl _ (by assumption) ?_ | refine OW_xor rfl rfl _ (xor_bv _ _) ?_ | (refine OW_isLoad ?_; refine OW_loadBk (by first | with_reducible exact one_u8 | with_reducible exact one_bytes | with_reducible exact one_bool | with_reducible exact one_int | with_reducible exact one_errno | with_reducible exact one_u32 | with_reducible exact one_u64 | with_reducible exact one_string) rfl (by apply_assumption; assumption) _ (by first | assumption | rfl) ?_) | refine OW_load1 (by first | with_reducible exact one_u8 | with_reducible exact one_bytes | with_reducible exact one_bool | with_reducible exact one_int | with_reducible exact one_errno | with_reducible exact one_u32 | with_reducible exact one_u64 | with_reducible exact one_string) rfl _ (by apply_assumption; assumption) ?_)
         refine OW_nil ?_
         exact stay_mk _ _ _ _)
    | refine OY_ppass rfl rfl ?_
    | refine OY_qpass rfl rfl ?_
    | (apply OY_ptake _ rfl rfl
       · intro wd
         (first | refine OW_sliceP h_slp_Tag rfl ?_ | (refine OW_isLoad ?_; refine OW_loadT s_agg_Tag rfl (by apply_assumption; assumption) (by assumption) ?_) | refine OW_eqlRT s_eqr_Tag rfl rfl (by assumption) ?_ | refine OW_idxSI und_bytes one_u8 rfl rfl (by omega) (by omega) ?_ | refine OW_moveV (.int _ _) rfl ?_ | refine OW_moveV (.slice _ _ _) rfl ?_ | refine OW_moveV (.bool _) rfl ?_ | refine OW_moveV (.pointer _) rfl ?_ | refine OW_moveV (.string _) rfl ?_ | refine OW_moveV (.agg _) rfl ?_ | refine OW_moveV (.tuple _) rfl ?_ | refine OW_nil ?_ | refine thenE_normal ?_ | refine CW_seq ?_ | refine CW_region (by kernel_rfl) ?_ | refine OW_assignV (.int _ _) rfl ?_ | refine OW_assignV (.slice _ _ _) rfl ?_ | refine OW_assignV (.bool _) rfl ?_ | refine OW_assignV (.pointer _) rfl ?_ | refine OW_assignV (.string _) rfl ?_ | refine OW_assignV (.agg _) rfl ?_ | refine OW_assignV (.tuple _) rfl ?_ | refine OW_addI rfl rfl (by omega) ?_ | refine OW_subI rfl rfl (by omega) ?_ | refine OW_mulI rfl rfl (by omega) ?_ | refine OW_lss rfl rfl ?_ | refine OW_extract rfl rfl ?_ | refine OW_gtr rfl rfl ?_ | refine OW_leq rfl rfl ?_ | refine OW_geq rfl rfl ?_ | refine OW_eql rfl rfl ?_ | refine OW_neq rfl rfl ?_ | refine OW_not rfl ?_ | refine OW_pickT rfl _ rfl ?_ | refine OW_pickF rfl (.bool _) rfl ?_ | refine OW_pickB rfl rfl rfl ?_ | refine OW_move ?_ | refine OW_assign ?_ | refine OW_pass rfl ?_ | refine OW_take rfl ?_ | refine OW_lenS (by first | with_reducible exact und_bytes | with_reducible exact und_bytess) rfl ?_ | refine OW_convInt (by first | with_reducible exact und_u8 | with_reducible exact und_u64 | with_reducible exact und_int | with_reducible exact und_u32) (by first | with_reducible exact und_u8 | with_reducible exact und_u64 | with_reducible exact und_int | with_reducible exact und_u32) rfl ?_ | refine OW_add rfl rfl ?_ | refine OW_sub rfl rfl ?_ | refine OW_mul rfl rfl ?_ | refine OW_min2 rfl rfl ?_ | refine OW_max2 rfl rfl ?_ | refine OW_neg rfl ?_ | refine CW_block ?_ | refine CW_condT rfl ?_ | refine CW_condF rfl ?_ | refine CW_exit ?_ | refine CW_ret ?_ | refine CW_skip ?_ | refine LW_seq ?_ | refine LW_regC ?_ | refine LW_condC ?_ | refine LW_regF ?_ | refine LW_condF ?_ | refine FW_seq ?_ | refine FW_region (by kernel_rfl) ?_ | refine FW_block ?_ | refine FW_condT rfl ?_ | refine FW_condF rfl ?_ | refine FW_exit ?_ | refine FW_ret ?_ | refine FW_skip ?_ | refine LW_ret ?_ | refine LW_skip ?_ | refine thenE_exit ?_ | refine thenE_ret ?_ | refine inBlockE_normal ?_ | refine inBlockE_same ?_ | refine inBlockE_ret ?_ | refine inBlockE_ne (by rfl) ?_ | refine OW_eqlB (by with_reducible exact und_bool) rfl rfl ?_ | refine OW_neqB (by with_reducible exact und_bool) rfl rfl ?_ | refine OW_idxS (by with_reducible exact und_bytes) one_u8 rfl rfl _ rfl (by omega) ?_ | refine OW_idxS (by with_reducible exact und_bytess) one_bytes rfl rfl _ rfl (by omega) ?_ | refine OW_load1 (by first | with_reducible exact one_u8 | with_reducible exact one_bytes) rfl _ (by assumption) ?_ | refine OW_xor rfl rfl _ (xor_bv _ _) ?_)
         refine OW_nil ?_
         exact stay_mk _ _ _ _)
    | (apply OY_qtake _ rfl rfl
       · intro wd hwd
         (first | refine OW_sliceP h_slp_Tag rfl ?_ | (refine OW_isLoad ?_; refine OW_loadT s_agg_Tag rfl (by apply_assumption; assumption) (by assumption) ?_) | refine OW_eqlRT s_eqr_Tag rfl rfl (by assumption) ?_ | refine OW_idxSI und_bytes one_u8 rfl rfl (by omega) (by omega) ?_ | refine OW_moveV (.int _ _) rfl ?_ | refine OW_moveV (.slice _ _ _) rfl ?_ | refine OW_moveV (.bool _) rfl ?_ | refine OW_moveV (.pointer _) rfl ?_ | refine OW_moveV (.string _) rfl ?_ | refine OW_moveV (.agg _) rfl ?_ | refine OW_moveV (.tuple _) rfl ?_ | refine OW_nil ?_ | refine thenE_normal ?_ | refine CW_seq ?_ | refine CW_region (by kernel_rfl) ?_ | refine OW_assignV (.int _ _) rfl ?_ | refine OW_assignV (.slice _ _ _) rfl ?_ | refine OW_assignV (.bool _) rfl ?_ | refine OW_assignV (.pointer _) rfl ?_ | refine OW_assignV (.string _) rfl ?_ | refine OW_assignV (.agg _) rfl ?_ | refine OW_assignV (.tuple _) rfl ?_ | refine OW_addI rfl rfl (by omega) ?_ | refine OW_subI rfl rfl (by omega) ?_ | refine OW_mulI rfl rfl (by omega) ?_ | refine OW_lss rfl rfl ?_ | refine OW_extract rfl rfl ?_ | refine OW_gtr rfl rfl ?_ | refine OW_leq rfl rfl ?_ | refine OW_geq rfl rfl ?_ | refine OW_eql rfl rfl ?_ | refine OW_neq rfl rfl ?_ | refine OW_not rfl ?_ | refine OW_pickT rfl _ rfl ?_ | refine OW_pickF rfl (.bool _) rfl ?_ | refine OW_pickB rfl rfl rfl ?_ | refine OW_move ?_ | refine OW_assign ?_ | refine OW_pass rfl ?_ | refine OW_take rfl ?_ | refine OW_lenS (by first | with_reducible exact und_bytes | with_reducible exact und_bytess) rfl ?_ | refine OW_convInt (by first | with_reducible exact und_u8 | with_reducible exact und_u64 | with_reducible exact und_int | with_reducible exact und_u32) (by first | with_reducible exact und_u8 | with_reducible exact und_u64 | with_reducible exact und_int | with_reducible exact und_u32) rfl ?_ | refine OW_add rfl rfl ?_ | refine OW_sub rfl rfl ?_ | refine OW_mul rfl rfl ?_ | refine OW_min2 rfl rfl ?_ | refine OW_max2 rfl rfl ?_ | refine OW_neg rfl ?_ | refine CW_block ?_ | refine CW_condT rfl ?_ | refine CW_condF rfl ?_ | refine CW_exit ?_ | refine CW_ret ?_ | refine CW_skip ?_ | refine LW_seq ?_ | refine LW_regC ?_ | refine LW_condC ?_ | refine LW_regF ?_ | refine LW_condF ?_ | refine FW_seq ?_ | refine FW_region (by kernel_rfl) ?_ | refine FW_block ?_ | refine FW_condT rfl ?_ | refine FW_condF rfl ?_ | refine FW_exit ?_ | refine FW_ret ?_ | refine FW_skip ?_ | refine LW_ret ?_ | refine LW_skip ?_ | refine thenE_exit ?_ | refine thenE_ret ?_ | refine inBlockE_normal ?_ | refine inBlockE_same ?_ | refine inBlockE_ret ?_ | refine inBlockE_ne (by rfl) ?_ | refine OW_eqlB (by with_reducible exact und_bool) rfl rfl ?_ | refine OW_neqB (by with_reducible exact und_bool) rfl rfl ?_ | refine OW_idxS (by with_reducible exact und_bytes) one_u8 rfl rfl _ rfl (by omega) ?_ | refine OW_idxS (by with_reducible exact und_bytess) one_bytes rfl rfl _ rfl (by omega) ?_ | refine OW_load1 (by first | with_reducible exact one_u8 | with_reducible exact one_bytes) rfl _ (by assumption) ?_ | refine OW_xor rfl rfl _ (xor_bv _ _) ?_ | (refine OW_isLoad ?_; refine OW_loadBk (by first | with_reducible exact one_u8 | with_reducible exact one_bytes | with_reducible exact one_bool | with_reducible exact one_int | with_reducible exact one_errno | with_reducible exact one_u32 | with_reducible exact one_u64 | with_reducible exact one_string) rfl (by apply_assumption; assumption) _ (by first | assumption | rfl) ?_) | refine OW_load1 (by first | with_reducible exact one_u8 | with_reducible exact one_bytes | with_reducible exact one_bool | with_reducible exact one_int | with_reducible exact one_errno | with_reducible exact one_u32 | with_reducible exact one_u64 | with_reducible exact one_string) rfl _ (by apply_assumption; assumption) ?_)
         refine OW_nil ?_
         exact stay_mk _ _ _ _)
    | refine OY_a (actY_of rfl ?_)
    | refine OY_d (actY_of rfl ?_)
    | refine OY_a (actY_pass rfl rfl ?_)
    | refine OY_d (actY_pass rfl rfl ?_)
    | refine OY_a (actY_take rfl rfl ?_)
    | refine OY_d (actY_take rfl rfl ?_))
  exact hEnd.out) (k : B) : A := h ⟨k⟩
/-- The block as far as it goes. -/
def xk (x : UInt8) (K : List UInt8) (k : Nat) : List UInt8 := (xorB x K).take k ++ List.replicate (64 - k) 0
theorem xk_length {x : UInt8} {K : List UInt8} {k : Nat} (hK : K.length = 64) (hk : k ≤ 64) : (xk x K k).length = 64 := by unfold xk; rw [List.length_append, List.length_take, xorB_length, List.length_replicate]; omega
theorem xk_set {x y : UInt8} {K : List UInt8} {k : Nat} (hK : K.length = 64) (hk : k < 64) (hy : y = K[k] ^^^ x) : (xk x K k).set k y = xk x K (k + 1) := by
  subst hy
  have hl : (xorB x K).length = 64 := by rw [xorB_length, hK]
  have e : 64 - k = (64 - (k + 1)) + 1 := by omega
  unfold xk
  rw [List.set_append_right _ _ (by rw [List.length_take]; omega), e, List.replicate_succ, List.length_take, Nat.min_eq_left (by omega), Nat.sub_self, List.set_cons_zero, List.take_succ_eq_append_getElem (by omega), List.append_assoc]
  simp [xorB]
theorem map_set (l : List UInt8) (k : Nat) (y : UInt8) : (l.map bv).toArray.setIfInBounds k (bv y) = ((l.set k y).map bv).toArray := by
  rw [List.map_set]
  simp
theorem xk_get {x : UInt8} {K : List UInt8} {k : Nat} (hK : K.length = 64) (hk : k < 64) (y : UInt8) : (((xk x K k).set k y).map bv).toArray[k]? = some (bv y) := by
  have := xk_length (x := x) hK (Nat.le_of_lt hk)
  simp [this, hk]
theorem set_set (l : List UInt8) (k : Nat) (x y : UInt8) : (l.set k x).set k y = l.set k y := by simp
set_option maxHeartbeats 8000000 in
theorem walk (w : World) (A : Option Addr) (cA : Nat) (key : List UInt8) (ha : Bs w A key) (hca : key.length ≤ cA) (B : Option Addr) (cB : Nat) (b : List UInt8) (hb : Bs w B b) (hcb : b.length ≤ cB) :
    Calls Try.prog 3 #[.slice A key.length cA, .slice B b.length cB] w (RetV w (.bool true)) := by
  refine calls_of_CW Try.func3 rfl (by simp [Try.ntmps3]) ?_
  rw [Try.ntmps3]
  refine go_LHmacTwice (k := ?_)
  refine OW_callV Try.func14 (by kernel_rfl) rfl (awake3_any w) rfl ?_
  intro w1 hx1
  refine go_LHmacTwice (k := ?_)
  refine OW_split 16 _ rfl (fun h => ?_) (fun h => ?_)
  · refine go_LHmacTwice (k := ?_)
    exact bodyE_ret1 rfl (.bool true) rfl ⟨rfl, hx1⟩
  have hla : key.length ≤ 64 := by simp at h; omega
  clear h
  refine go_LHmacTwice (k := ?_)
  refine CW_cond _ rfl (fun h => ?_) (fun h => ?_)
  · refine go_LHmacTwice (k := ?_)
    exact bodyE_ret1 rfl (.bool true) rfl ⟨rfl, hx1⟩
  have hlb : b.length ≤ 500 := by simp at h; omega
  clear h
  have hkl := keyB_length key
  have hkk : keyB key = key ++ List.replicate (64 - key.length) 0 := by
    have : keyK key = key := by unfold keyK; rw [if_neg (by omega)]
    unfold keyB; rw [this]
  have hlo : ∀ k (h1 : k < key.length) (h2 : k < (keyB key).length), (keyB key)[k] = key[k] := fun k h1 h2 => by
    have : (keyB key)[k]? = some key[k] := by rw [hkk, List.getElem?_append_left h1, List.getElem?_eq_getElem h1]
    simpa [List.getElem?_eq_getElem h2] using this
  have hhi : ∀ k (h1 : ¬ k < key.length) (h2 : k < (keyB key).length), (keyB key)[k] = 0 := fun k h1 h2 => by
    have : (keyB key)[k]? = some 0 := by rw [hkk, List.getElem?_append_right (by omega), List.getElem?_replicate, if_pos (by omega)]
    simpa [List.getElem?_eq_getElem h2] using this
  have hout : shaL (xorB 92 (keyB key) ++ shaL (xorB 54 (keyB key) ++ b)) = hmacL key b := rfl
  have hol := hmacL_length key b
  have hhm := fun (w : World) (hx : Ext w1 w) => hmacSum_any w A B cA cB key b (ha.ext (hx1.trans' hx)) hca (by omega) (hb.ext (hx1.trans' hx)) (by omega)
  have hxl1 := xorB_length 54 (keyB key)
  have hxl2 := xorB_length 92 (keyB key)
  generalize hmacL key b = out at *
  generalize keyB key = K at *
  clear hkk
  rw [hkl] at hxl1 hxl2
  refine go_LHmacTwice (k := ?_)
  refine CW_meet (fun e' w' => ∃ gi go, gi ≠ go ∧ e' 0 = .slice A key.length cA ∧ e' 1 = .slice B b.length cB ∧ e' 5 = .slice (some ⟨gi, 0, none⟩) 64 64 ∧ e' 6 = .slice (some ⟨go, 0, none⟩) 64 64 ∧ Blk w' gi 5 ((xk 54 K 0).map bv).toArray ∧ Blk w' go 5 ((xk 92 K 0).map bv).toArray ∧ w1.heap.size ≤ gi ∧ w1.heap.size ≤ go ∧ Ext w1 w') ?_ ?_
  · obtain ⟨C, hC⟩ : ∃ C : World → Prop, C = fun v => Ext w1 v := ⟨_, rfl⟩
    refine CW_tree2 [] (Ty.graft (.a2 0 (.p 2 (.d 1 (.p 3 .done))) 1 (.d 0 (.p 2 (.p 3 .done)))) .done) (C) (by kernel_rfl) (by kernel_rfl) (by kernel_rfl) ?_ ?_
    · exact inE hC
    intro w2 hx2 h_C
    have z1 : ∀ v g, Blk v g 5 (Array.replicate 64 (.int .u8 0)) → Blk v g 5 ((xk 54 K 0).map bv).toArray := fun v g h => h
    have z2 : ∀ v g, Blk v g 5 (Array.replicate 64 (.int .u8 0)) → Blk v g 5 ((xk 92 K 0).map bv).toArray := fun v g h => h
    refine OY_a2 (actY_of rfl ?_) (actY_of rfl ?_)
    · refine OW_make und_bytes info_u8 rfl rfl rfl (n := 64) rfl rfl (by decide) (by decide) ?_
      intro w3 g3 hb3 hg3 hx3
      first | refine OW_nil (goY_mkE hC (hx2.trans' hx3) ?_) | refine OW_nil (goY_dropE hC (hx2.trans' hx3) ?_)
      refine oy_LHmacTwice (k := ?_)
      refine OW_make und_bytes info_u8 rfl rfl rfl (n := 64) rfl rfl (by decide) (by decide) ?_
      intro w4 g4 hb4 hg4 hx4
      have hx14 := (hx2.trans' hx3).trans' hx4
      first | refine OW_nil (goY_mkE hC (hx14) ?_) | refine OW_nil (goY_dropE hC (hx14) ?_)
      refine oy_LHmacTwice (k := ?_)
      refine ⟨rfl, g3, g4, ?_, rfl, rfl, rfl, rfl, z1 _ _ (hb3.ext hx4), z2 _ _ hb4, ?_, ?_, hx14⟩
      · have := hb3.lt; omega
      · have := hx2.size; omega
      · have := (hx2.trans' hx3).size; omega
    · refine OW_make und_bytes info_u8 rfl rfl rfl (n := 64) rfl rfl (by decide) (by decide) ?_
      intro w3 g3 hb3 hg3 hx3
      first | refine OW_nil (goY_mkE hC (hx2.trans' hx3) ?_) | refine OW_nil (goY_dropE hC (hx2.trans' hx3) ?_)
      refine oy_LHmacTwice (k := ?_)
      refine OW_make und_bytes info_u8 rfl rfl rfl (n := 64) rfl rfl (by decide) (by decide) ?_
      intro w4 g4 hb4 hg4 hx4
      have hx14 := (hx2.trans' hx3).trans' hx4
      first | refine OW_nil (goY_mkE hC (hx14) ?_) | refine OW_nil (goY_dropE hC (hx14) ?_)
      refine oy_LHmacTwice (k := ?_)
      refine ⟨rfl, g4, g3, ?_, rfl, rfl, rfl, rfl, z1 _ _ hb4, z2 _ _ (hb3.ext hx4), ?_, ?_, hx14⟩
      · have := hb3.lt; omega
      · have := (hx2.trans' hx3).size; omega
      · have := hx2.size; omega
  rintro e2 w2 ⟨gi, go, hne, q0, q1, q5, q6, hbi, hbo, hgi, hgo, hx2⟩
  rw [upd_self q0, upd_self q1, upd_self q5, upd_self q6]
  refine go_LHmacTwice (k := ?_)
  refine CW_meetB (fun e' w' => e' 0 = .slice A key.length cA ∧ e' 1 = .slice B b.length cB ∧ e' 5 = .slice (some ⟨gi, 0, none⟩) 64 64 ∧ e' 6 = .slice (some ⟨go, 0, none⟩) 64 64 ∧ Blk w' gi 5 ((xorB 54 K).map bv).toArray ∧ Blk w' go 5 ((xorB 92 K).map bv).toArray ∧ Ext w1 w') ?_ ?_
  · refine CW_loop (fun e' w' => ∃ k : Nat, k ≤ 64 ∧ e' 0 = .slice A key.length cA ∧ e' 1 = .slice B b.length cB ∧ e' 5 = .slice (some ⟨gi, 0, none⟩) 64 64 ∧ e' 6 = .slice (some ⟨go, 0, none⟩) 64 64 ∧ e' 7 = .int .i64 k ∧ Blk w' gi 5 ((xk 54 K k).map bv).toArray ∧ Blk w' go 5 ((xk 92 K k).map bv).toArray ∧ Ext w1 w') (fun e' _ => 64 - (intOf (e' 7)).toNat) ?_ ?_
    · exact ⟨0, by omega, rfl, rfl, rfl, rfl, rfl, hbi, hbo, hx2⟩
    rintro e3 w3 ⟨k, hk, q0, q1, q5, q6, q7, hbi, hbo, hx3⟩
    rw [upd_self q0, upd_self q1, upd_self q5, upd_self q6, upd_self q7]
    refine go_LHmacTwice (k := ?_)
    refine CW_cond _ rfl (fun h => ?_) (fun h => ?_)
    · have hlt : k < 64 := by have := of_decide_eq_true h; omega
      clear h
      have s3 := hx3.size
      refine go_LHmacTwice (k := ?_)
      refine OW_storeB one_u8 rfl (bv 54) rfl rfl hbi (by simp [xk_length hkl hk]; omega) ?_
      intro w4 hbi4 hg4
      rw [map_set] at hbi4
      have hbo4 := hbo.only hg4 (Ne.symm hne)
      have hx4 : Ext w1 w4 := below_only hx3 hg4 hgi s3
      have s4 := hx4.size
      refine go_LHmacTwice (k := ?_)
      refine OW_storeB one_u8 rfl (bv 92) rfl rfl hbo4 (by simp [xk_length hkl hk]; omega) ?_
      intro w5 hbo5 hg5
      rw [map_set] at hbo5
      have hbi5 := hbi4.only hg5 hne
      have hx5 : Ext w1 w5 := below_only hx4 hg5 hgo s4
      have s5 := hx5.size
      have c1 := xk_get (x := 54) hkl hlt 54
      have c2 := xk_get (x := 92) hkl hlt 92
      have fin1 := fun y => xk_set (x := 54) (y := y) hkl hlt
      have fin2 := fun y => xk_set (x := 92) (y := y) hkl hlt
      have t1 := fun y => set_set (xk 54 K k) k 54 y
      have t2 := fun y => set_set (xk 92 K k) k 92 y
      have f1 := fin1 54
      have f2 := fin2 92
      have n1 : ((xk 54 K k).set k 54).length = 64 := by rw [List.length_set]; exact xk_length hkl hk
      have n2 : ((xk 92 K k).set k 92).length = 64 := by rw [List.length_set]; exact xk_length hkl hk
      replace hbi5 : Blk w5 gi 5 (((xk 54 K k).set k 54).map bv).toArray := hbi5
      replace hbo5 : Blk w5 go 5 (((xk 92 K k).set k 92).map bv).toArray := hbo5
      clear hbi hbo hbi4 hbo4 hg4 hg5
      generalize (xk 54 K k).set k 54 = L1 at *
      generalize (xk 92 K k).set k 92 = L2 at *
      refine go_LHmacTwice (k := ?_)
      refine CW_meet (fun e' w' => e' 0 = .slice A key.length cA ∧ e' 1 = .slice B b.length cB ∧ e' 5 = .slice (some ⟨gi, 0, none⟩) 64 64 ∧ e' 6 = .slice (some ⟨go, 0, none⟩) 64 64 ∧ e' 7 = .int .i64 k ∧ Blk w' gi 5 ((xk 54 K (k + 1)).map bv).toArray ∧ Blk w' go 5 ((xk 92 K (k + 1)).map bv).toArray ∧ Ext w1 w') ?_ ?_
      · refine CW_cond _ rfl (fun h => ?_) (fun h => ?_)
        · have hlk : k < key.length := by have := of_decide_eq_true h; omega
          clear h
          obtain ⟨ad, rfl, hck⟩ := (ha.ext (hx1.trans' hx5)).at_ hlk
          have hK := hlo k hlk (by omega)
          rw [← hK] at hck
          obtain ⟨ca1, hca1⟩ : ∃ ca : Array Value, (L1.map bv).toArray = ca := ⟨_, rfl⟩
          obtain ⟨ca2, hca2⟩ : ∃ ca : Array Value, (L2.map bv).toArray = ca := ⟨_, rfl⟩
          rw [hca1] at hbi5 c1
          rw [hca2] at hbo5 c2
          refine go_LHmacTwice (k := ?_)
          obtain ⟨C, hC⟩ : ∃ C : World → Prop, C = fun v => Ext w5 v := ⟨_, rfl⟩
          have y_hbi5 := blkE hC hbi5
          have y_hbo5 := blkE hC hbo5
          have y_hck := cellE hC hck
          refine CW_tree2 [7, 11, 16, 20] (.p 0 (.p 1 (.p 2 (.p 3 (.p 4 (.p 5 (.p 6 (.q 7 (.p 8 (.p 9 (.p 10 (.q 11 (.p 12 (.p 13 (.p 14 (.p 15 (.q 16 (.p 17 (.p 18 (.p 19 (.q 20 (.p 21 (.p 22 (.d 23 (.p 24 (.d 25 .done)))))))))))))))))))))))))) (C) (by kernel_rfl) (by kernel_rfl) (by kernel_rfl) ?_ ?_
          · exact inE hC
          intro w6 hx6 h_C
          refine oy_LHmacTwice (k := ?_)
          have hbi6 := hbi5.ext hx6
          have hbo6 := hbo5.ext hx6
          rw [← hca1] at hbi6
          rw [← hca2] at hbo6
          refine OW_storeB one_u8 rfl (bv (54 ^^^ K[k])) rfl rfl hbi6 (by simp [n1]; omega) ?_
          intro w7 hbi7 hg7
          rw [map_set] at hbi7
          have hbo7 := hbo6.only hg7 (Ne.symm hne)
          have hx7 : Ext w1 w7 := below_only (hx5.trans' hx6) hg7 hgi (hx5.trans' hx6).size
          refine OW_nil (goY_drop (fun _ => True) trivial ?_)
          refine oy_LHmacTwice (k := ?_)
          refine OW_storeB one_u8 rfl (bv (92 ^^^ K[k])) rfl rfl hbo7 (by simp [n2]; omega) ?_
          intro w8 hbo8 hg8
          rw [map_set] at hbo8
          have hbi8 := hbi7.only hg8 hne
          have hx8 : Ext w1 w8 := below_only hx7 hg8 hgo hx7.size
          refine OW_nil (goY_done ?_)
          refine go_LHmacTwice (k := ?_)
          refine ⟨rfl, rfl, rfl, rfl, rfl, rfl, ?_, ?_, hx8⟩
          · rw [← fin1 (54 ^^^ K[k]) (by rw [UInt8.xor_comm]), ← t1]; exact hbi8
          · rw [← fin2 (92 ^^^ K[k]) (by rw [UInt8.xor_comm]), ← t2]; exact hbo8
        · have hge : ¬ k < key.length := by have := of_decide_eq_false h; omega
          have hK := hhi k hge (by omega)
          refine go_LHmacTwice (k := ?_)
          refine ⟨rfl, rfl, rfl, rfl, rfl, rfl, ?_, ?_, hx5⟩
          · rw [← f1 (by rw [hK]; rfl)]; exact hbi5
          · rw [← f2 (by rw [hK]; rfl)]; exact hbo5
      rintro e6 w6 ⟨q0, q1, q5, q6, q7, hbi6, hbo6, hx6⟩
      rw [upd_self q0, upd_self q1, upd_self q5, upd_self q6, upd_self q7]
      refine go_LHmacTwice (k := ?_)
      refine ⟨⟨k + 1, hlt, rfl, rfl, rfl, rfl, rfl, hbi6, hbo6, hx6⟩, ?_⟩
      show 64 - ((k : Int) + 1).toNat < 64 - (k : Int).toNat
      omega
    · have hge : k = 64 := by have := of_decide_eq_false h; omega
      subst hge
      have u1 : xk 54 K 64 = xorB 54 K := by unfold xk; rw [List.take_of_length_le (by omega)]; simp
      have u2 : xk 92 K 64 = xorB 92 K := by unfold xk; rw [List.take_of_length_le (by omega)]; simp
      rw [u1] at hbi
      rw [u2] at hbo
      refine go_LHmacTwice (k := ?_)
      exact ⟨rfl, rfl, rfl, rfl, rfl, hbi, hbo, hx3⟩
  rintro e3 w3 ⟨q0, q1, q5, q6, hbi, hbo, hx3⟩
  rw [upd_self q0, upd_self q1, upd_self q5, upd_self q6]
  have hIi : Bs w3 (some ⟨gi, 0, none⟩) (xorB 54 K) := bs_row hbi
  have hIo : Bs w3 (some ⟨go, 0, none⟩) (xorB 92 K) := bs_row hbo
  clear hbi hbo
  refine go_LHmacTwice (k := ?_)
  refine OW_callC Try.func15 (by kernel_rfl) rfl (newHash_any w3) rfl ?_
  rintro en w4 ⟨g4, rfl, hg4, hx4, hR4⟩
  refine ⟨_, rfl, ?_⟩
  have ho4 : Own w3 w4 (more (fun _ => False) w3 w4) := Own.new (Ext.rfl' w3) hx4
  generalize more (fun _ => False) w3 w4 = S4 at *
  have hW5 := hwrite_any w4 g4 S4 [] hR4 (some ⟨gi, 0, none⟩) 64 (xorB 54 K) (hIi.ext hx4) (by rw [hxl1]; decide)
  rw [hxl1] at hW5
  refine go_LHmacTwice (k := ?_)
  refine OW_callC Try.func16 (by kernel_rfl) rfl hW5 rfl ?_
  rintro en w5 ⟨rfl, hR5, hK5⟩
  refine ⟨_, rfl, ?_⟩
  have ho5 := ho4.step hK5
  rw [List.nil_append] at hR5
  generalize more S4 w4 w5 = S5 at *
  refine go_LHmacTwice (k := ?_)
  refine OW_callC Try.func16 (by kernel_rfl) rfl (hwrite_any w5 g4 S5 _ hR5 B cB b (hb.ext ((hx1.trans' hx3).trans' ho5.ext)) (by omega)) rfl ?_
  rintro en w6 ⟨rfl, hR6, hK6⟩
  refine ⟨_, rfl, ?_⟩
  have ho6 := ho5.step hK6
  generalize more S5 w5 w6 = S6 at *
  have hIo6 := hIo.ext ho6.ext
  have hx16 := hx3.trans' ho6.ext
  have hsl := shaL_length (xorB 54 K ++ b)
  have hhs := hsum_any w6 g4 S6 _ hR6 (by rw [List.length_append]; omega)
  clear hR6 hR5 hR4 hW5 hK5 hK6
  generalize shaL (xorB 54 K ++ b) = T at *
  have hTl : (T.map bv).length = 32 := by rw [List.length_map, hsl]
  refine go_LHmacTwice (k := ?_)
  refine OW_callV Try.func17 (by kernel_rfl) rfl hhs rfl ?_
  intro w7 hx7
  refine go_LHmacTwice (k := ?_)
  refine OW_allocA s_agg_Tag ?_
  intro w8 g9 hb8 hg8 hl8 hx8
  refine go_LHmacTwice (k := ?_)
  refine OW_storeA s_agg_Tag rfl (T.map bv) rfl hTl hb8 rfl (bv_one _) ?_
  intro w9 hb9 hgr9
  have hx17 := hx16.trans' hx7
  have hx19 : Ext w1 w9 := below_only (hx17.trans' hx8) hgr9 (by have := hx17.size; omega) (hx17.trans' hx8).size
  have hx69 : Ext w6 w9 := below_only (hx7.trans' hx8) hgr9 (by have := hx7.size; omega) (hx7.trans' hx8).size
  have hT9 : Bs w9 (some ⟨g9, 0, none⟩) T := bs_row hb9
  have hO9 := hIo6.ext hx69
  have hcl : (xorB 92 K ++ T).length ≤ 1000 := by rw [List.length_append]; omega
  have hl1 : (xorB 92 K).length + T.length ≤ 1000000 := by omega
  refine go_LHmacTwice (k := ?_)
  obtain ⟨C, hC⟩ : ∃ C : World → Prop, C = fun v => Ext w9 v := ⟨_, rfl⟩
  refine CW_tree2 [] (.p 0 (.p 1 (.p 3 (.p 4 (Ty.graft (.a2 2 (.d 5 .done) 5 (.d 2 .done)) (.d 6 (.d 7 (.p 8 (.p 9 .done))))))))) (C) (by kernel_rfl) (by kernel_rfl) (by kernel_rfl) ?_ ?_
  · exact inE hC
  intro w10 hx10 h_C
  refine oy_LHmacTwice (k := ?_)
  refine OY_a2 (actY_of rfl ?_) (actY_of rfl ?_)
  · refine OW_callV Try.func18 (by kernel_rfl) rfl (hhm w10 (hx19.trans' hx10)) rfl ?_
    intro w11 hx11
    have hy11 := hx10.trans' hx11
    first | refine OW_nil (goY_mkE hC (hy11) ?_) | refine OW_nil (goY_dropE hC (hy11) ?_)
    refine oy_LHmacTwice (k := ?_)
    refine OW_lit [.slice (some ⟨go, 0, none⟩) 64 64, .slice (some ⟨g9, 0, none⟩) 32 32] und_bytess info_bytes rfl rfl (by simp [Value.oneCell']) (by decide) ?_
    intro w12 g12 hb12 hg12 hx12
    have hy12 := hy11.trans' hx12
    first | refine OW_nil (goY_mkE hC (hy12) ?_) | refine OW_nil (goY_dropE hC (hy12) ?_)
    refine oy_LHmacTwice (k := ?_)
    refine OW_callBs Try.func20 (by kernel_rfl) rfl (cat_lit2 (c := 2) hb12 (hO9.ext hy12) hxl2 (hT9.ext hy12) hsl hl1) rfl ?_
    intro w13 A13 c13 hf13
    have hy13 := hy12.trans' hf13.ext
    first | refine OW_nil (goY_mkE hC (hy13) ?_) | refine OW_nil (goY_dropE hC (hy13) ?_)
    refine oy_LHmacTwice (k := ?_)
    refine OW_callV Try.func19 (by kernel_rfl) rfl (shaSum_any w13 A13 c13 _ hf13.bs (by omega)) rfl ?_
    intro w14 hx14
    have hy14 := hy13.trans' hx14
    rw [hout]
    first | refine OW_nil (goY_mkE hC (hy14) ?_) | refine OW_nil (goY_dropE hC (hy14) ?_)
    refine oy_LHmacTwice (k := ?_)
    refine go_LHmacTwice (k := ?_)
    exact bodyE_ret1 rfl (.bool true) rfl ⟨rfl, (hx1.trans' hx19).trans' hy14⟩
  · refine OW_lit [.slice (some ⟨go, 0, none⟩) 64 64, .slice (some ⟨g9, 0, none⟩) 32 32] und_bytess info_bytes rfl rfl (by simp [Value.oneCell']) (by decide) ?_
    intro w12 g12 hb12 hg12 hx12
    have hy12 := hx10.trans' hx12
    first | refine OW_nil (goY_mkE hC (hy12) ?_) | refine OW_nil (goY_dropE hC (hy12) ?_)
    refine oy_LHmacTwice (k := ?_)
    refine OW_callV Try.func18 (by kernel_rfl) rfl (hhm w12 (hx19.trans' hy12)) rfl ?_
    intro w11 hx11
    have hy11 := hy12.trans' hx11
    first | refine OW_nil (goY_mkE hC (hy11) ?_) | refine OW_nil (goY_dropE hC (hy11) ?_)
    refine oy_LHmacTwice (k := ?_)
    refine OW_callBs Try.func20 (by kernel_rfl) rfl (cat_lit2 (c := 2) (hb12.ext hx11) (hO9.ext hy11) hxl2 (hT9.ext hy11) hsl hl1) rfl ?_
    intro w13 A13 c13 hf13
    have hy13 := hy11.trans' hf13.ext
    first | refine OW_nil (goY_mkE hC (hy13) ?_) | refine OW_nil (goY_dropE hC (hy13) ?_)
    refine oy_LHmacTwice (k := ?_)
    refine OW_callV Try.func19 (by kernel_rfl) rfl (shaSum_any w13 A13 c13 _ hf13.bs (by omega)) rfl ?_
    intro w14 hx14
    have hy14 := hy13.trans' hx14
    rw [hout]
    first | refine OW_nil (goY_mkE hC (hy14) ?_) | refine OW_nil (goY_dropE hC (hy14) ?_)
    refine oy_LHmacTwice (k := ?_)
    refine go_LHmacTwice (k := ?_)
    exact bodyE_ret1 rfl (.bool true) rfl ⟨rfl, (hx1.trans' hx19).trans' hy14⟩
set_option maxRecDepth 100000 in
theorem lifted (os : Os) (started : os.Started) (H : Type) (enc : TypeId × Value → H) :
    ReturnsInHanded {} Try.checked os 3 .any (Rows.hmacTwiceSpec.pre6 enc Try.prog Try.f3 Rows.hmacTwiceRow.domain false) (Rows.hmacTwiceSpec.post enc Try.prog Try.f3 false true false false) := by
  refine returnsInHanded_of_change (C := Try.checked) ownP started (by kernel_rfl) Try.func3
    (ChangeSpec.witness6 (enc := enc) (C := Try.checked) false ⟨#[], #[.slice none 0 0, .slice none 0 0], []⟩ 8 (by kernel_rfl) (by kernel_rfl) (by kernel_rfl) (by kernel_rfl)) ?_
  intro W base args ds gs before hval0 hW hcnd _
  have hval : ∀ (j : Nat) t v, Try.f3.params[j]? = some t → args[j]? = some v → Value.okWide Try.prog W .any base t v := hval0
  have hW' := hW
  obtain ⟨p, q, hA0, hV, rfl, hfz, hnd⟩ := hW
  have hA : DataW.TrodAll enc Try.prog W 0 (fun _ => true) true Try.f3.params.toList args.toList ds p := hA0
  rw [Try.params3] at hA hval
  obtain ⟨v0, vs0, d0, ds0, p0, q0, hargs, rfl, rfl, h0, r0⟩ := trodAll_cons hA
  obtain ⟨v1, vs1, d1, ds1, p1, q1, rfl, rfl, rfl, h1, r1⟩ := trodAll_cons r0
  obtain ⟨rfl, rfl, rfl⟩ := trodAll_nil r1
  obtain rfl : args = #[v0, v1] := by cases args; simp_all
  obtain ⟨rfl, rfl⟩ := trodVars_none hV
  have k0 := h0
  have lt0 : ∀ x ∈ p0, x.block < W.heap.size := by obtain ⟨m, hm⟩ := k0; exact DataW.trod_lt m _ _ _ hm
  have k1 := h1
  have lt1 : ∀ x ∈ p1, x.block < W.heap.size := by obtain ⟨m, hm⟩ := k1; exact DataW.trod_lt m _ _ _ hm
  obtain ⟨A0, c0, l0, rfl, b0, n0⟩ := open_bytes Try.underlying22 Try.underlying5 (by kernel_rfl) (hval 0 22 v0 rfl rfl) h0
  obtain ⟨A1, c1, l1, rfl, b1, n1⟩ := open_bytes Try.underlying22 Try.underlying5 (by kernel_rfl) (hval 1 22 v1 rfl rfl) h1
  clear hA0 hval0
  refine (walk W A0 c0 l0 b0 n0 A1 c1 l1 b1 n1).mono fun e W' ⟨he, bel⟩ => ?_
  subst he
  exact ⟨_, rfl, _, _, _, [], _, [], hW', trodAll_mk1 (shut_bool Try.underlying4 _), (trodAll_cons_mk (Below.trod laidP (by kernel_rfl) (of_decide_eq_true (by kernel_rfl)) k0 bel lt0) (trodAll_cons_mk (Below.trod laidP (by kernel_rfl) (of_decide_eq_true (by kernel_rfl)) k1 bel lt1) trodAll_mk0)), rfl, bel.frame _, fun h => by cases h⟩
theorem over : Rows.hmacTwiceRow.holds Try.pinned (OpenSpec.ofChange Rows.hmacTwiceSpec) :=
  OpenClaim.holds_of_wide 3 Try.f3 rfl rfl rfl rfl rfl rfl rfl ⟨rfl, rfl, rfl, rfl, rfl⟩ rfl rfl rfl rfl rfl (by kernel_rfl) Try.func3 (by kernel_rfl)
    (of_decide_eq_true (by kernel_rfl)) (by unfold Func.isWrapper; first | (rw [if_pos (by decide +kernel)]; kernel_rfl) | (rw [if_neg (by decide +kernel)]; exact ⟨rfl, rfl⟩))
    (fun os started H enc _ => lifted os started H enc)
theorem proved : Rows.HmacTwiceSaid := over
#print axioms proved
end Go.Proofs.Ytdpcahfgdpikfaa.lawHmacTwice
