/- ShaAsked: asking Sum, however often, changes nothing. No condition. -/
import Derived.Test.YtikkfpgbbenheaaShaL
namespace Go.Proofs.Ytikkfpgbbenheaa.lawShaAsked
open Go.ChangeShapes Go.WideShapes Go.ChangeAt Go.RowKit
set_option linter.unusedVariables false
theorem go_LShaAsked {A B : Prop} (h : Held B → A := by
  intro hEnd
  repeat (first | (refine OW_isLoad ?_; refine OW_loadT s_agg_Tag rfl (by apply_assumption; assumption) (shaL_length _) ?_) | refine OW_eqlRT s_eqr_Tag rfl rfl (shaL_length _) ?_ | refine OW_neqRF s_eqr_Tag rfl rfl (shaL_length _) ?_ | refine OW_moveV (.int _ _) rfl ?_ | refine OW_moveV (.slice _ _ _) rfl ?_ | refine OW_moveV (.bool _) rfl ?_ | refine OW_moveV (.pointer _) rfl ?_ | refine OW_moveV (.string _) rfl ?_ | refine OW_moveV (.agg _) rfl ?_ | refine OW_moveV (.tuple _) rfl ?_ | refine OW_nil ?_ | refine thenE_normal ?_ | refine CW_seq ?_ | refine CW_region (by kernel_rfl) ?_ | refine OW_assignV (.int _ _) rfl ?_ | refine OW_assignV (.slice _ _ _) rfl ?_ | refine OW_assignV (.bool _) rfl ?_ | refine OW_assignV (.pointer _) rfl ?_ | refine OW_assignV (.string _) rfl ?_ | refine OW_assignV (.agg _) rfl ?_ | refine OW_assignV (.tuple _) rfl ?_ | refine OW_addI rfl rfl (by omega) ?_ | refine OW_subI rfl rfl (by omega) ?_ | refine OW_mulI rfl rfl (by omega) ?_ | refine OW_lss rfl rfl ?_ | refine OW_extract rfl rfl ?_ | refine OW_gtr rfl rfl ?_ | refine OW_leq rfl rfl ?_ | refine OW_geq rfl rfl ?_ | refine OW_eql rfl rfl ?_ | refine OW_neq rfl rfl ?_ | refine OW_not rfl ?_ | refine OW_pickT rfl _ rfl ?_ | refine OW_pickF rfl (.bool _) rfl ?_ | refine OW_pickB rfl rfl rfl ?_ | refine OW_move ?_ | refine OW_assign ?_ | refine OW_pass rfl ?_ | refine OW_take rfl ?_ | refine OW_lenS (by first | with_reducible exact und_bytes | with_reducible exact und_bytess) rfl ?_ | refine OW_convInt (by first | with_reducible exact und_u8 | with_reducible exact und_u64 | with_reducible exact und_int | with_reducible exact und_u32) (by first | with_reducible exact und_u8 | with_reducible exact und_u64 | with_reducible exact und_int | with_reducible exact und_u32) rfl ?_ | refine OW_add rfl rfl ?_ | refine OW_sub rfl rfl ?_ | refine OW_mul rfl rfl ?_ | refine OW_min2 rfl rfl ?_ | refine OW_max2 rfl rfl ?_ | refine OW_neg rfl ?_ | refine CW_block ?_ | refine CW_condT rfl ?_ | refine CW_condF rfl ?_ | refine CW_exit ?_ | refine CW_ret ?_ | refine CW_skip ?_ | refine LW_seq ?_ | refine LW_regC ?_ | refine LW_condC ?_ | refine LW_regF ?_ | refine LW_condF ?_ | refine FW_seq ?_ | refine FW_region (by kernel_rfl) ?_ | refine FW_block ?_ | refine FW_condT rfl ?_ | refine FW_condF rfl ?_ | refine FW_exit ?_ | refine FW_ret ?_ | refine FW_skip ?_ | refine LW_ret ?_ | refine LW_skip ?_ | refine thenE_exit ?_ | refine thenE_ret ?_ | refine inBlockE_normal ?_ | refine inBlockE_same ?_ | refine inBlockE_ret ?_ | refine inBlockE_ne (by rfl) ?_ | refine OW_eqlB (by with_reducible exact und_bool) rfl rfl ?_ | refine OW_neqB (by with_reducible exact und_bool) rfl rfl ?_ | refine OW_idxS (by with_reducible exact und_bytes) one_u8 rfl rfl _ rfl (by omega) ?_ | refine OW_idxS (by with_reducible exact und_bytess) one_bytes rfl rfl _ rfl (by omega) ?_ | refine OW_load1 (by first | with_reducible exact one_u8 | with_reducible exact one_bytes) rfl _ (by assumption) ?_)
  exact hEnd.out) (k : B) : A := h ⟨k⟩
theorem oy_LShaAsked {A B : Prop} (h : Held B → A := by
  intro hEnd
  repeat (first
    | refine OY_done ?_
    | (apply OY_p _ rfl
       · intro wd
         (first | (refine OW_isLoad ?_; refine OW_loadT s_agg_Tag rfl (by apply_assumption; assumption) (shaL_length _) ?_) | refine OW_eqlRT s_eqr_Tag rfl rfl (shaL_length _) ?_ | refine OW_neqRF s_eqr_Tag rfl rfl (shaL_length _) ?_ | refine OW_moveV (.int _ _) rfl ?_ | refine OW_moveV (.slice _ _ _) rfl ?_ | refine OW_moveV (.bool _) rfl ?_ | refine OW_moveV (.pointer _) rfl ?_ | refine OW_moveV (.string _) rfl ?_ | refine OW_moveV (.agg _) rfl ?_ | refine OW_moveV (.tuple _) rfl ?_ | refine OW_nil ?_ | refine thenE_normal ?_ | refine CW_seq ?_ | refine CW_region (by kernel_rfl) ?_ | refine OW_assignV (.int _ _) rfl ?_ | refine OW_assignV (.slice _ _ _) rfl ?_ | refine OW_assignV (.bool _) rfl ?_ | refine OW_assignV (.pointer _) rfl ?_ | refine OW_assignV (.string _) rfl ?_ | refine OW_assignV (.agg _) rfl ?_ | refine OW_assignV (.tuple _) rfl ?_ | refine OW_addI rfl rfl (by omega) ?_ | refine OW_subI rfl rfl (by omega) ?_ | refine OW_mulI rfl rfl (by omega) ?_ | refine OW_lss rfl rfl ?_ | refine OW_extract rfl rfl ?_ | refine OW_gtr rfl rfl ?_ | refine OW_leq rfl rfl ?_ | refine OW_geq rfl rfl ?_ | refine OW_eql rfl rfl ?_ | refine OW_neq rfl rfl ?_ | refine OW_not rfl ?_ | refine OW_pickT rfl _ rfl ?_ | refine OW_pickF rfl (.bool _) rfl ?_ | refine OW_pickB rfl rfl rfl ?_ | refine OW_move ?_ | refine OW_assign ?_ | refine OW_pass rfl ?_ | refine OW_take rfl ?_ | refine OW_lenS (by first | with_reducible exact und_bytes | with_reducible exact und_bytess) rfl ?_ | refine OW_convInt (by first | with_reducible exact und_u8 | with_reducible exact und_u64 | with_reducible exact und_int | with_reducible exact und_u32) (by first | with_reducible exact und_u8 | with_reducible exact und_u64 | with_reducible exact und_int | with_reducible exact und_u32) rfl ?_ | refine OW_add rfl rfl ?_ | refine OW_sub rfl rfl ?_ | refine OW_mul rfl rfl ?_ | refine OW_min2 rfl rfl ?_ | refine OW_max2 rfl rfl ?_ | refine OW_neg rfl ?_ | refine CW_block ?_ | refine CW_condT rfl ?_ | refine CW_condF rfl ?_ | refine CW_exit ?_ | refine CW_ret ?_ | refine CW_skip ?_ | refine LW_seq ?_ | refine LW_regC ?_ | refine LW_condC ?_ | refine LW_regF ?_ | refine LW_condF ?_ | refine FW_seq ?_ | refine FW_region (by kernel_rfl) ?_ | refine FW_block ?_ | refine FW_condT rfl ?_ | refine FW_condF rfl ?_ | refine FW_exit ?_ | refine FW_ret ?_ | refine FW_skip ?_ | refine LW_ret ?_ | refine LW_skip ?_ | refine thenE_exit ?_ | refine thenE_ret ?_ | refine inBlockE_normal ?_ | refine inBlockE_same ?_ | refine inBlockE_ret ?_ | refine inBlockE_ne (by rfl) ?_ | refine OW_eqlB (by with_reducible exact und_bool) rfl rfl ?_ | refine OW_neqB (by with_reducible exact und_bool) rfl rfl ?_ | refine OW_idxS (by with_reducible exact und_bytes) one_u8 rfl rfl _ rfl (by omega) ?_ | refine OW_idxS (by with_reducible exact und_bytess) one_bytes rfl rfl _ rfl (by omega) ?_ | refine OW_load1 (by first | with_reducible exact one_u8 | with_reducible exact one_bytes) rfl _ (by assumption) ?_)
         refine OW_nil ?_
         exact stay_mk _ _ _ _)
    | (apply OY_q _ rfl
       · intro wd hwd
         (first | (refine OW_isLoad ?_; refine OW_loadT s_agg_Tag rfl (by apply_assumption; assumption) (shaL_length _) ?_) | refine OW_eqlRT s_eqr_Tag rfl rfl (shaL_length _) ?_ | refine OW_neqRF s_eqr_Tag rfl rfl (shaL_length _) ?_ | refine OW_moveV (.int _ _) rfl ?_ | refine OW_moveV (.slice _ _ _) rfl ?_ | refine OW_moveV (.bool _) rfl ?_ | refine OW_moveV (.pointer _) rfl ?_ | refine OW_moveV (.string _) rfl ?_ | refine OW_moveV (.agg _) rfl ?_ | refine OW_moveV (.tuple _) rfl ?_ | refine OW_nil ?_ | refine thenE_normal ?_ | refine CW_seq ?_ | refine CW_region (by kernel_rfl) ?_ | refine OW_assignV (.int _ _) rfl ?_ | refine OW_assignV (.slice _ _ _) rfl ?_ | refine OW_assignV (.bool _) rfl ?_ | refine OW_assignV (.pointer _) rfl ?_ | refine OW_assignV (.string _) rfl ?_ | refine OW_assignV (.agg _) rfl ?_ | refine OW_assignV (.tuple _) rfl ?_ | refine OW_addI rfl rfl (by omega) ?_ | refine OW_subI rfl rfl (by omega) ?_ | refine OW_mulI rfl rfl (by omega) ?_ | refine OW_lss rfl rfl ?_ | refine OW_extract rfl rfl ?_ | refine OW_gtr rfl rfl ?_ | refine OW_leq rfl rfl ?_ | refine OW_geq rfl rfl ?_ | refine OW_eql rfl rfl ?_ | refine OW_neq rfl rfl ?_ | refine OW_not rfl ?_ | refine OW_pickT rfl _ rfl ?_ | refine OW_pickF rfl (.bool _) rfl ?_ | refine OW_pickB rfl rfl rfl ?_ | refine OW_move ?_ | refine OW_assign ?_ | refine OW_pass rfl ?_ | refine OW_take rfl ?_ | refine OW_lenS (by first | with_reducible exact und_bytes | with_reducible exact und_bytess) rfl ?_ | refine OW_convInt (by first | with_reducible exact und_u8 | with_reducible exact und_u64 | with_reducible exact und_int | with_reducible exact und_u32) (by first | with_reducible exact und_u8 | with_reducible exact und_u64 | with_reducible exact und_int | with_reducible exact und_u32) rfl ?_ | refine OW_add rfl rfl ?_ | refine OW_sub rfl rfl ?_ | refine OW_mul rfl rfl ?_ | refine OW_min2 rfl rfl ?_ | refine OW_max2 rfl rfl ?_ | refine OW_neg rfl ?_ | refine CW_block ?_ | refine CW_condT rfl ?_ | refine CW_condF rfl ?_ | refine CW_exit ?_ | refine CW_ret ?_ | refine CW_skip ?_ | refine LW_seq ?_ | refine LW_regC ?_ | refine LW_condC ?_ | refine LW_regF ?_ | refine LW_condF ?_ | refine FW_seq ?_ | refine FW_region (by kernel_rfl) ?_ | refine FW_block ?_ | refine FW_condT rfl ?_ | refine FW_condF rfl ?_ | refine FW_exit ?_ | refine FW_ret ?_ | refine FW_skip ?_ | refine LW_ret ?_ | refine LW_skip ?_ | refine thenE_exit ?_ | refine thenE_ret ?_ | refine inBlockE_normal ?_ | refine inBlockE_same ?_ | refine inBlockE_ret ?_ | refine inBlockE_ne (by rfl) ?_ | refine OW_eqlB (by with_reducible exact und_bool) rfl rfl ?_ | refine OW_neqB (by with_reducible exact und_bool) rfl rfl ?_ | refine OW_idxS (by with_reducible exact und_bytes) one_u8 rfl rfl _ rfl (by omega) ?_ | refine OW_idxS (by with_reducible exact und_bytess) one_bytes rfl rfl _ rfl (by omega) ?_ | refine OW_load1 (by first | with_reducible exact one_u8 | with_reducible exact one_bytes) rfl _ (by assumption) ?_ | (refine OW_isLoad ?_; refine OW_loadBk (by first | with_reducible exact one_u8 | with_reducible exact one_bytes | with_reducible exact one_bool | with_reducible exact one_int | with_reducible exact one_errno | with_reducible exact one_u32 | with_reducible exact one_u64 | with_reducible exact one_string) rfl (by apply_assumption; assumption) _ (by first | assumption | rfl) ?_) | refine OW_load1 (by first | with_reducible exact one_u8 | with_reducible exact one_bytes | with_reducible exact one_bool | with_reducible exact one_int | with_reducible exact one_errno | with_reducible exact one_u32 | with_reducible exact one_u64 | with_reducible exact one_string) rfl _ (by apply_assumption; assumption) ?_)
         refine OW_nil ?_
         exact stay_mk _ _ _ _)
    | refine OY_ppass rfl rfl ?_
    | refine OY_qpass rfl rfl ?_
    | (apply OY_ptake _ rfl rfl
       · intro wd
         (first | (refine OW_isLoad ?_; refine OW_loadT s_agg_Tag rfl (by apply_assumption; assumption) (shaL_length _) ?_) | refine OW_eqlRT s_eqr_Tag rfl rfl (shaL_length _) ?_ | refine OW_neqRF s_eqr_Tag rfl rfl (shaL_length _) ?_ | refine OW_moveV (.int _ _) rfl ?_ | refine OW_moveV (.slice _ _ _) rfl ?_ | refine OW_moveV (.bool _) rfl ?_ | refine OW_moveV (.pointer _) rfl ?_ | refine OW_moveV (.string _) rfl ?_ | refine OW_moveV (.agg _) rfl ?_ | refine OW_moveV (.tuple _) rfl ?_ | refine OW_nil ?_ | refine thenE_normal ?_ | refine CW_seq ?_ | refine CW_region (by kernel_rfl) ?_ | refine OW_assignV (.int _ _) rfl ?_ | refine OW_assignV (.slice _ _ _) rfl ?_ | refine OW_assignV (.bool _) rfl ?_ | refine OW_assignV (.pointer _) rfl ?_ | refine OW_assignV (.string _) rfl ?_ | refine OW_assignV (.agg _) rfl ?_ | refine OW_assignV (.tuple _) rfl ?_ | refine OW_addI rfl rfl (by omega) ?_ | refine OW_subI rfl rfl (by omega) ?_ | refine OW_mulI rfl rfl (by omega) ?_ | refine OW_lss rfl rfl ?_ | refine OW_extract rfl rfl ?_ | refine OW_gtr rfl rfl ?_ | refine OW_leq rfl rfl ?_ | refine OW_geq rfl rfl ?_ | refine OW_eql rfl rfl ?_ | refine OW_neq rfl rfl ?_ | refine OW_not rfl ?_ | refine OW_pickT rfl _ rfl ?_ | refine OW_pickF rfl (.bool _) rfl ?_ | refine OW_pickB rfl rfl rfl ?_ | refine OW_move ?_ | refine OW_assign ?_ | refine OW_pass rfl ?_ | refine OW_take rfl ?_ | refine OW_lenS (by first | with_reducible exact und_bytes | with_reducible exact und_bytess) rfl ?_ | refine OW_convInt (by first | with_reducible exact und_u8 | with_reducible exact und_u64 | with_reducible exact und_int | with_reducible exact und_u32) (by first | with_reducible exact und_u8 | with_reducible exact und_u64 | with_reducible exact und_int | with_reducible exact und_u32) rfl ?_ | refine OW_add rfl rfl ?_ | refine OW_sub rfl rfl ?_ | refine OW_mul rfl rfl ?_ | refine OW_min2 rfl rfl ?_ | refine OW_max2 rfl rfl ?_ | refine OW_neg rfl ?_ | refine CW_block ?_ | refine CW_condT rfl ?_ | refine CW_condF rfl ?_ | refine CW_exit ?_ | refine CW_ret ?_ | refine CW_skip ?_ | refine LW_seq ?_ | refine LW_regC ?_ | refine LW_condC ?_ | refine LW_regF ?_ | refine LW_condF ?_ | refine FW_seq ?_ | refine FW_region (by kernel_rfl) ?_ | refine FW_block ?_ | refine FW_condT rfl ?_ | refine FW_condF rfl ?_ | refine FW_exit ?_ | refine FW_ret ?_ | refine FW_skip ?_ | refine LW_ret ?_ | refine LW_skip ?_ | refine thenE_exit ?_ | refine thenE_ret ?_ | refine inBlockE_normal ?_ | refine inBlockE_same ?_ | refine inBlockE_ret ?_ | refine inBlockE_ne (by rfl) ?_ | refine OW_eqlB (by with_reducible exact und_bool) rfl rfl ?_ | refine OW_neqB (by with_reducible exact und_bool) rfl rfl ?_ | refine OW_idxS (by with_reducible exact und_bytes) one_u8 rfl rfl _ rfl (by omega) ?_ | refine OW_idxS (by with_reducible exact und_bytess) one_bytes rfl rfl _ rfl (by omega) ?_ | refine OW_load1 (by first | with_reducible exact one_u8 | with_reducible exact one_bytes) rfl _ (by assumption) ?_)
         refine OW_nil ?_
         exact stay_mk _ _ _ _)
    | (apply OY_qtake _ rfl rfl
       · intro wd hwd
         (first | (refine OW_isLoad ?_; refine OW_loadT s_agg_Tag rfl (by apply_assumption; assumption) (shaL_length _) ?_) | refine OW_eqlRT s_eqr_Tag rfl rfl (shaL_length _) ?_ | refine OW_neqRF s_eqr_Tag rfl rfl (shaL_length _) ?_ | refine OW_moveV (.int _ _) rfl ?_ | refine OW_moveV (.slice _ _ _) rfl ?_ | refine OW_moveV (.bool _) rfl ?_ | refine OW_moveV (.pointer _) rfl ?_ | refine OW_moveV (.string _) rfl ?_ | refine OW_moveV (.agg _) rfl ?_ | refine OW_moveV (.tuple _) rfl ?_ | refine OW_nil ?_ | refine thenE_normal ?_ | refine CW_seq ?_ | refine CW_region (by kernel_rfl) ?_ | refine OW_assignV (.int _ _) rfl ?_ | refine OW_assignV (.slice _ _ _) rfl ?_ | refine OW_assignV (.bool _) rfl ?_ | refine OW_assignV (.pointer _) rfl ?_ | refine OW_assignV (.string _) rfl ?_ | refine OW_assignV (.agg _) rfl ?_ | refine OW_assignV (.tuple _) rfl ?_ | refine OW_addI rfl rfl (by omega) ?_ | refine OW_subI rfl rfl (by omega) ?_ | refine OW_mulI rfl rfl (by omega) ?_ | refine OW_lss rfl rfl ?_ | refine OW_extract rfl rfl ?_ | refine OW_gtr rfl rfl ?_ | refine OW_leq rfl rfl ?_ | refine OW_geq rfl rfl ?_ | refine OW_eql rfl rfl ?_ | refine OW_neq rfl rfl ?_ | refine OW_not rfl ?_ | refine OW_pickT rfl _ rfl ?_ | refine OW_pickF rfl (.bool _) rfl ?_ | refine OW_pickB rfl rfl rfl ?_ | refine OW_move ?_ | refine OW_assign ?_ | refine OW_pass rfl ?_ | refine OW_take rfl ?_ | refine OW_lenS (by first | with_reducible exact und_bytes | with_reducible exact und_bytess) rfl ?_ | refine OW_convInt (by first | with_reducible exact und_u8 | with_reducible exact und_u64 | with_reducible exact und_int | with_reducible exact und_u32) (by first | with_reducible exact und_u8 | with_reducible exact und_u64 | with_reducible exact und_int | with_reducible exact und_u32) rfl ?_ | refine OW_add rfl rfl ?_ | refine OW_sub rfl rfl ?_ | refine OW_mul rfl rfl ?_ | refine OW_min2 rfl rfl ?_ | refine OW_max2 rfl rfl ?_ | refine OW_neg rfl ?_ | refine CW_block ?_ | refine CW_condT rfl ?_ | refine CW_condF rfl ?_ | refine CW_exit ?_ | refine CW_ret ?_ | refine CW_skip ?_ | refine LW_seq ?_ | refine LW_regC ?_ | refine LW_condC ?_ | refine LW_regF ?_ | refine LW_condF ?_ | refine FW_seq ?_ | refine FW_region (by kernel_rfl) ?_ | refine FW_block ?_ | refine FW_condT rfl ?_ | refine FW_condF rfl ?_ | refine FW_exit ?_ | refine FW_ret ?_ | refine FW_skip ?_ | refine LW_ret ?_ | refine LW_skip ?_ | refine thenE_exit ?_ | refine thenE_ret ?_ | refine inBlockE_normal ?_ | refine inBlockE_same ?_ | refine inBlockE_ret ?_ | refine inBlockE_ne (by rfl) ?_ | refine OW_eqlB (by with_reducible exact und_bool) rfl rfl ?_ | refine OW_neqB (by with_reducible exact und_bool) rfl rfl ?_ | refine OW_idxS (by with_reducible exact und_bytes) one_u8 rfl rfl _ rfl (by omega) ?_ | refine OW_idxS (by with_reducible exact und_bytess) one_bytes rfl rfl _ rfl (by omega) ?_ | refine OW_load1 (by first | with_reducible exact one_u8 | with_reducible exact one_bytes) rfl _ (by assumption) ?_ | (refine OW_isLoad ?_; refine OW_loadBk (by first | with_reducible exact one_u8 | with_reducible exact one_bytes | with_reducible exact one_bool | with_reducible exact one_int | with_reducible exact one_errno | with_reducible exact one_u32 | with_reducible exact one_u64 | with_reducible exact one_string) rfl (by apply_assumption; assumption) _ (by first | assumption | rfl) ?_) | refine OW_load1 (by first | with_reducible exact one_u8 | with_reducible exact one_bytes | with_reducible exact one_bool | with_reducible exact one_int | with_reducible exact one_errno | with_reducible exact one_u32 | with_reducible exact one_u64 | with_reducible exact one_string) rfl _ (by apply_assumption; assumption) ?_)
         refine OW_nil ?_
         exact stay_mk _ _ _ _)
    | refine OY_a (actY_of rfl ?_)
    | refine OY_d (actY_of rfl ?_)
    | refine OY_a (actY_pass rfl rfl ?_)
    | refine OY_d (actY_pass rfl rfl ?_)
    | refine OY_a (actY_take rfl rfl ?_)
    | refine OY_d (actY_take rfl rfl ?_))
  exact hEnd.out) (k : B) : A := h ⟨k⟩
set_option maxHeartbeats 8000000 in
theorem walk (w : World) (A : Option Addr) (cA : Nat) (a : List UInt8) (ha : Bs w A a) (hca : a.length ≤ cA) (B : Option Addr) (cB : Nat) (b : List UInt8) (hb : Bs w B b) (hcb : b.length ≤ cB) (n : Int) (hn : -9223372036854775808 ≤ n ∧ n ≤ 9223372036854775807) :
    Calls Try.prog 6 #[.slice A a.length cA, .slice B b.length cB, .int .i64 n] w (RetV w (.bool true)) := by
  refine calls_of_CW Try.func6 rfl (by simp [Try.ntmps6]) ?_
  rw [Try.ntmps6]
  refine go_LShaAsked (k := ?_)
  refine OW_callV Try.func19 (by kernel_rfl) rfl (awake_any w) rfl ?_
  intro w1 hx1
  refine go_LShaAsked (k := ?_)
  refine OW_split 23 _ rfl (fun h => ?_) (fun h => ?_)
  · refine go_LShaAsked (k := ?_)
    exact bodyE_ret1 rfl (.bool true) rfl ⟨rfl, hx1⟩
  have hla : a.length ≤ 1000 := by simp at h; omega
  clear h
  refine go_LShaAsked (k := ?_)
  refine OW_split 28 _ rfl (fun h => ?_) (fun h => ?_)
  · refine go_LShaAsked (k := ?_)
    exact bodyE_ret1 rfl (.bool true) rfl ⟨rfl, hx1⟩
  have hlb : b.length ≤ 1000 := by simp at h; omega
  clear h
  refine go_LShaAsked (k := ?_)
  refine OW_split 32 _ rfl (fun h => ?_) (fun h => ?_)
  · refine go_LShaAsked (k := ?_)
    exact bodyE_ret1 rfl (.bool true) rfl ⟨rfl, hx1⟩
  have hn0 : 0 ≤ n := by simp at h; omega
  clear h
  refine go_LShaAsked (k := ?_)
  refine CW_cond _ rfl (fun h => ?_) (fun h => ?_)
  · refine go_LShaAsked (k := ?_)
    exact bodyE_ret1 rfl (.bool true) rfl ⟨rfl, hx1⟩
  have hn5 : n ≤ 5 := by simp at h; omega
  clear h
  refine go_LShaAsked (k := ?_)
  refine OW_callC Try.func18 (by kernel_rfl) rfl (newHash_any w1) rfl ?_
  rintro en w2 ⟨g, rfl, hg, hx2, hG⟩
  refine ⟨_, rfl, ?_⟩
  have oG := Own.new hx1 hx2
  refine go_LShaAsked (k := ?_)
  refine OW_callC Try.func18 (by kernel_rfl) rfl (newHash_any w2) rfl ?_
  rintro en w3 ⟨h, rfl, hh, hx3, hH⟩
  refine ⟨_, rfl, ?_⟩
  have oH := Own.new oG.ext hx3
  replace oG := oG.to hx3
  have hd : ∀ k, more (fun _ => False) w2 w3 k → ¬ more (fun _ => False) w1 w2 k := more_apart' hG.bd
  replace hG := hG.ext hx3
  generalize more (fun _ => False) w1 w2 = S1 at *
  generalize more (fun _ => False) w2 w3 = S2 at *
  refine go_LShaAsked (k := ?_)
  refine OW_callC Try.func11 (by kernel_rfl) rfl (hwrite_any w3 g _ [] hG A cA a (ha.ext oG.ext) (by simp; omega)) rfl ?_
  rintro en w4 ⟨rfl, hG2, hk4⟩
  refine ⟨_, rfl, ?_⟩
  replace hG := hG2
  clear hG2
  have hd4 := more_apart (w' := w4) hH.bd hd
  replace hH := hH.beside hk4 hd
  replace oH : Own w w4 S2 := ⟨(oG.step hk4).ext, oH.lo⟩
  replace oG := oG.step hk4
  rw [List.nil_append] at hG
  generalize more S1 w3 w4 = S3 at *
  refine go_LShaAsked (k := ?_)
  refine OW_callC Try.func11 (by kernel_rfl) rfl (hwrite_any w4 h _ [] hH A cA a (ha.ext oG.ext) (by simp; omega)) rfl ?_
  rintro en w5 ⟨rfl, hH2, hk5⟩
  refine ⟨_, rfl, ?_⟩
  replace hH := hH2
  clear hH2
  have hd5 := more_apart (w' := w5) hG.bd (apart_symm hd4)
  replace hG := hG.beside hk5 (apart_symm hd4)
  replace oG : Own w w5 S3 := ⟨(oH.step hk5).ext, oG.lo⟩
  replace oH := oH.step hk5
  rw [List.nil_append] at hH
  generalize more S2 w4 w5 = S4 at *
  have hlen : ∀ l : List UInt8, ((shaL l).map bv).length = 32 := fun l => by rw [List.length_map, shaL_length]
  refine go_LShaAsked (k := ?_)
  refine OW_callV Try.func10 (by kernel_rfl) rfl (hsum_any w5 h _ _ hH (by omega)) rfl ?_
  intro w6 hx6
  refine go_LShaAsked (k := ?_)
  refine OW_allocA s_agg_Tag ?_
  intro w7 g9 hb9 hg9 hl9 hx7
  refine go_LShaAsked (k := ?_)
  refine OW_storeA s_agg_Tag rfl ((shaL a).map bv) rfl (hlen _) hb9 rfl (bv_one _) ?_
  intro w8 hb9' hgr8
  have hx58 : Ext w5 w8 := below_only (hx6.trans' hx7) hgr8 (by have := hx6.size; omega) (hx6.trans' hx7).size
  have n3 : ∀ k, S3 k → k ≠ g9 := fun k hk => by have := hG.bd k hk; have := hx6.size; omega
  have n4 : ∀ k, S4 k → k ≠ g9 := fun k hk => by have := hH.bd k hk; have := hx6.size; omega
  replace hH := hH.ext hx58
  replace hG := hG.ext hx58
  replace oG := oG.to hx58
  replace oH := oH.to hx58
  clear hb9 hgr8 hx7 hx6 hx58
  refine go_LShaAsked (k := ?_)
  refine CW_meetB (fun e' w' => e' 0 = .slice A a.length cA ∧ e' 1 = .slice B b.length cB ∧ e' 7 = .pointer (some ⟨g, 0, none⟩) ∧ e' 8 = .pointer (some ⟨h, 0, none⟩) ∧ e' 9 = .pointer (some ⟨g9, 0, none⟩) ∧ Ext w8 w') ?_ ?_
  · refine CW_loop (fun e' w' => ∃ k : Nat, (k : Int) ≤ n ∧ e' 0 = .slice A a.length cA ∧ e' 1 = .slice B b.length cB ∧ e' 2 = .int .i64 n ∧ e' 7 = .pointer (some ⟨g, 0, none⟩) ∧ e' 8 = .pointer (some ⟨h, 0, none⟩) ∧ e' 9 = .pointer (some ⟨g9, 0, none⟩) ∧ e' 11 = .int .i64 k ∧ Ext w8 w') (fun e' _ => (n - intOf (e' 11)).toNat) ?_ ?_
    · exact ⟨0, by omega, rfl, rfl, rfl, rfl, rfl, rfl, rfl, Ext.rfl' _⟩
    rintro e' w' ⟨k, hk, q0, q1, q2, q7, q8, q9, q11, hx⟩
    rw [upd_self q0, upd_self q1, upd_self q2, upd_self q7, upd_self q8, upd_self q9, upd_self q11]
    refine go_LShaAsked (k := ?_)
    refine CW_cond _ rfl (fun hh => ?_) (fun hh => ?_)
    · have hlt : (k : Int) < n := by simpa using hh
      refine go_LShaAsked (k := ?_)
      refine OW_callV Try.func10 (by kernel_rfl) rfl (hsum_any w' h _ _ (hH.ext hx) (by omega)) rfl ?_
      intro w9 hx9
      refine go_LShaAsked (k := ?_)
      refine OW_allocA s_agg_Tag ?_
      intro w10 g12 hb12 hg12 hl12 hx10
      refine go_LShaAsked (k := ?_)
      refine OW_storeA s_agg_Tag rfl ((shaL a).map bv) rfl (hlen _) hb12 rfl (bv_one _) ?_
      intro w11 hb12' hgr11
      have hx11 : Ext w8 w11 := below_only ((hx.trans' hx9).trans' hx10) hgr11 (by have := (hx.trans' hx9).size; omega) ((hx.trans' hx9).trans' hx10).size
      refine go_LShaAsked (k := ?_)
      refine OW_isLoad ?_
      refine OW_loadT s_agg_Tag rfl hb12' (shaL_length _) ?_
      refine go_LShaAsked (k := ?_)
      refine OW_isLoad ?_
      refine OW_loadT s_agg_Tag rfl (hb9'.ext hx11) (shaL_length _) ?_
      refine go_LShaAsked (k := ?_)
      refine ⟨⟨k + 1, by omega, rfl, rfl, rfl, rfl, rfl, rfl, rfl, hx11⟩, ?_⟩
      show (n - ((k : Int) + 1)).toNat < (n - (k : Int)).toNat
      omega
    · refine go_LShaAsked (k := ?_)
      exact ⟨rfl, rfl, rfl, rfl, rfl, rfl, hx⟩
  rintro e' w' ⟨q0, q1, q7, q8, q9, hx⟩
  rw [upd_self q0, upd_self q1, upd_self q7, upd_self q8, upd_self q9]
  replace hH := hH.ext hx
  replace hG := hG.ext hx
  replace oG := oG.to hx
  replace oH := oH.to hx
  replace hb9' := hb9'.ext hx
  refine go_LShaAsked (k := ?_)
  refine OW_callC Try.func11 (by kernel_rfl) rfl (hwrite_any w' g _ a hG B cB b (hb.ext oG.ext) (by omega)) rfl ?_
  rintro en w9 ⟨rfl, hG2, hk9⟩
  refine ⟨_, rfl, ?_⟩
  replace hG := hG2
  clear hG2
  have hd9 := more_apart (w' := w9) hH.bd (apart_symm hd5)
  replace hH := hH.beside hk9 (apart_symm hd5)
  replace hb9' := hb9'.keeps hk9 (fun hs => n3 _ hs rfl)
  replace oH : Own w w9 S4 := ⟨(oG.step hk9).ext, oH.lo⟩
  replace oG := oG.step hk9
  generalize more S3 w' w9 = S5 at *
  refine go_LShaAsked (k := ?_)
  refine OW_callC Try.func11 (by kernel_rfl) rfl (hwrite_any w9 h _ a hH B cB b (hb.ext oG.ext) (by omega)) rfl ?_
  rintro en w10 ⟨rfl, hH2, hk10⟩
  refine ⟨_, rfl, ?_⟩
  replace hH := hH2
  clear hH2
  replace hG := hG.beside hk10 (apart_symm hd9)
  replace hb9' := hb9'.keeps hk10 (fun hs => n4 _ hs rfl)
  have ox := (oH.step hk10).ext
  refine go_LShaAsked (k := ?_)
  refine OW_callV Try.func10 (by kernel_rfl) rfl (hsum_any w10 g _ _ hG (by simp; omega)) rfl ?_
  intro w11 hx11
  refine go_LShaAsked (k := ?_)
  refine OW_allocA s_agg_Tag ?_
  intro w12 g14 hb14 hg14 hl14 hx12
  refine go_LShaAsked (k := ?_)
  refine OW_storeA s_agg_Tag rfl ((shaL (a ++ b)).map bv) rfl (hlen _) hb14 rfl (bv_one _) ?_
  intro w13 hb14' hgr13
  have hx13 : Ext w10 w13 := below_only (hx11.trans' hx12) hgr13 (by have := hx11.size; omega) (hx11.trans' hx12).size
  replace hH := hH.ext hx13
  refine go_LShaAsked (k := ?_)
  refine OW_callV Try.func10 (by kernel_rfl) rfl (hsum_any w13 h _ _ hH (by simp; omega)) rfl ?_
  intro w14 hx14
  refine go_LShaAsked (k := ?_)
  refine OW_allocA s_agg_Tag ?_
  intro w15 g16 hb16 hg16 hl16 hx15
  refine go_LShaAsked (k := ?_)
  refine OW_storeA s_agg_Tag rfl ((shaL (a ++ b)).map bv) rfl (hlen _) hb16 rfl (bv_one _) ?_
  intro w16 hb16' hgr16
  have hx1316 : Ext w13 w16 := below_only (hx14.trans' hx15) hgr16 (by have := hx14.size; omega) (hx14.trans' hx15).size
  have ox16 := (ox.trans' hx13).trans' hx1316
  replace hb14' := hb14'.ext hx1316
  replace hb9' := (hb9'.ext hx13).ext hx1316
  have ha16 := ha.ext ox16
  clear hb14 hb16 hgr13 hgr16
  refine go_LShaAsked (k := ?_)
  obtain ⟨K, hK⟩ : ∃ K : World → Prop, K = fun v => Ext w16 v := ⟨_, rfl⟩
  have y9 : ∀ v, K v → Blk v g9 31 ((shaL a).map bv).toArray := fun v hv => by rw [hK] at hv; exact hb9'.ext hv
  have y14 : ∀ v, K v → Blk v g14 31 ((shaL (a ++ b)).map bv).toArray := fun v hv => by rw [hK] at hv; exact hb14'.ext hv
  have y16 : ∀ v, K v → Blk v g16 31 ((shaL (a ++ b)).map bv).toArray := fun v hv => by rw [hK] at hv; exact hb16'.ext hv
  refine CW_tree2 [0, 1, 4] (.q 0 (.q 1 (.p 2 (.p 3 (.q 4 (.p 5 (.a 6 (.p 7 (.p 8 (.p 9 .done)))))))))) (K) (by kernel_rfl) (by kernel_rfl) (by kernel_rfl) ?_ ?_
  · exact fun v hv => by rw [hK]; exact hv
  intro w17 hx17 hK17
  refine oy_LShaAsked (k := ?_)
  refine OW_callV Try.func14 (by kernel_rfl) rfl (shaSum_any w17 A cA a (ha16.ext hx17) (by omega)) rfl ?_
  intro w18 hx18
  have hK18 : K w18 := by rw [hK]; exact hx17.trans' hx18
  refine OW_nil (goY_mk hK18 ?_)
  refine oy_LShaAsked (k := ?_)
  refine go_LShaAsked (k := ?_)
  exact bodyE_ret1 rfl (.bool true) rfl ⟨rfl, (ox16.trans' hx17).trans' hx18⟩
set_option maxRecDepth 100000 in
theorem lifted (os : Os) (started : os.Started) (H : Type) (enc : TypeId × Value → H) :
    ReturnsInHanded {} Try.checked os 6 .any (Rows.shaAskedSpec.pre6 enc Try.prog Try.f6 Rows.shaAskedRow.domain false) (Rows.shaAskedSpec.post enc Try.prog Try.f6 false true false false) := by
  refine returnsInHanded_of_change (C := Try.checked) ownP started (by kernel_rfl) Try.func6
    (ChangeSpec.witness6 (enc := enc) (C := Try.checked) false ⟨#[], #[.slice none 0 0, .slice none 0 0, .int .i64 0], []⟩ 8 (by kernel_rfl) (by kernel_rfl) (by kernel_rfl) (by kernel_rfl)) ?_
  intro W base args ds gs before hval0 hW hcnd _
  have hval : ∀ (j : Nat) t v, Try.f6.params[j]? = some t → args[j]? = some v → Value.okWide Try.prog W .any base t v := hval0
  have hW' := hW
  obtain ⟨p, q, hA0, hV, rfl, hfz, hnd⟩ := hW
  have hA : DataW.TrodAll enc Try.prog W 0 (fun _ => true) true Try.f6.params.toList args.toList ds p := hA0
  rw [Try.params6] at hA hval
  obtain ⟨v0, vs0, d0, ds0, p0, q0, hargs, rfl, rfl, h0, r0⟩ := trodAll_cons hA
  obtain ⟨v1, vs1, d1, ds1, p1, q1, rfl, rfl, rfl, h1, r1⟩ := trodAll_cons r0
  obtain ⟨v2, vs2, d2, ds2, p2, q2, rfl, rfl, rfl, h2, r2⟩ := trodAll_cons r1
  obtain ⟨rfl, rfl, rfl⟩ := trodAll_nil r2
  obtain rfl : args = #[v0, v1, v2] := by cases args; simp_all
  obtain ⟨rfl, rfl⟩ := trodVars_none hV
  have k0 := h0
  have lt0 : ∀ x ∈ p0, x.block < W.heap.size := by obtain ⟨m, hm⟩ := k0; exact DataW.trod_lt m _ _ _ hm
  have k1 := h1
  have lt1 : ∀ x ∈ p1, x.block < W.heap.size := by obtain ⟨m, hm⟩ := k1; exact DataW.trod_lt m _ _ _ hm
  have k2 := h2
  have lt2 : ∀ x ∈ p2, x.block < W.heap.size := by obtain ⟨m, hm⟩ := k2; exact DataW.trod_lt m _ _ _ hm
  obtain ⟨A0, c0, l0, rfl, b0, n0⟩ := open_bytes Try.underlying22 Try.underlying5 (by kernel_rfl) (hval 0 22 v0 rfl rfl) h0
  obtain ⟨A1, c1, l1, rfl, b1, n1⟩ := open_bytes Try.underlying22 Try.underlying5 (by kernel_rfl) (hval 1 22 v1 rfl rfl) h1
  obtain ⟨a2, rfl, rfl, rfl, w2⟩ := open_int Try.underlying3 (hval 2 3 v2 rfl rfl) h2
  have b2 := bounds_i64 w2
  clear hA0 hval0
  refine (walk W A0 c0 l0 b0 n0 A1 c1 l1 b1 n1 a2 b2).mono fun e W' ⟨he, bel⟩ => ?_
  subst he
  exact ⟨_, rfl, _, _, _, [], _, [], hW', trodAll_mk1 (shut_bool Try.underlying4 _), (trodAll_cons_mk (Below.trod laidP (by kernel_rfl) (of_decide_eq_true (by kernel_rfl)) k0 bel lt0) (trodAll_cons_mk (Below.trod laidP (by kernel_rfl) (of_decide_eq_true (by kernel_rfl)) k1 bel lt1) (trodAll_cons_mk (Below.trod laidP (by kernel_rfl) (of_decide_eq_true (by kernel_rfl)) k2 bel lt2) trodAll_mk0))), rfl, bel.frame _, fun h => by cases h⟩
theorem over : Rows.shaAskedRow.holds Try.pinned (OpenSpec.ofChange Rows.shaAskedSpec) :=
  OpenClaim.holds_of_wide 6 Try.f6 rfl rfl rfl rfl rfl rfl rfl ⟨rfl, rfl, rfl, rfl, rfl⟩ rfl rfl rfl rfl rfl (by kernel_rfl) Try.func6 (by kernel_rfl)
    (of_decide_eq_true (by kernel_rfl)) (by unfold Func.isWrapper; first | (rw [if_pos (by decide +kernel)]; kernel_rfl) | (rw [if_neg (by decide +kernel)]; exact ⟨rfl, rfl⟩))
    (fun os started H enc _ => lifted os started H enc)
theorem proved : Rows.ShaAskedSaid := over
#print axioms proved
end Go.Proofs.Ytikkfpgbbenheaa.lawShaAsked
