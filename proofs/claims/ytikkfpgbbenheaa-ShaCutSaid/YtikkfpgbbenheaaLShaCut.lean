/- ShaCut: however bytes are cut into two pieces, the hash of the pieces is Sum of all; so it is of bytes that are written one by one. No condition. -/
import Derived.Test.YtikkfpgbbenheaaShaL
namespace Go.Proofs.Ytikkfpgbbenheaa.lawShaCut
open Go.ChangeShapes Go.WideShapes Go.ChangeAt Go.RowKit
set_option linter.unusedVariables false
theorem go_LShaCut {A B : Prop} (h : Held B → A := by
  intro hEnd
  repeat (first | (refine OW_isLoad ?_; refine OW_loadT s_agg_Tag rfl (by apply_assumption; assumption) (shaL_length _) ?_) | refine OW_eqlRT s_eqr_Tag rfl rfl (shaL_length _) ?_ | refine OW_neqRF s_eqr_Tag rfl rfl (shaL_length _) ?_ | refine OW_eqlT rfl rfl rfl ?_ | refine OW_moveV (.int _ _) rfl ?_ | refine OW_moveV (.slice _ _ _) rfl ?_ | refine OW_moveV (.bool _) rfl ?_ | refine OW_moveV (.pointer _) rfl ?_ | refine OW_moveV (.string _) rfl ?_ | refine OW_moveV (.agg _) rfl ?_ | refine OW_moveV (.tuple _) rfl ?_ | refine OW_nil ?_ | refine thenE_normal ?_ | refine CW_seq ?_ | refine CW_region (by kernel_rfl) ?_ | refine OW_assignV (.int _ _) rfl ?_ | refine OW_assignV (.slice _ _ _) rfl ?_ | refine OW_assignV (.bool _) rfl ?_ | refine OW_assignV (.pointer _) rfl ?_ | refine OW_assignV (.string _) rfl ?_ | refine OW_assignV (.agg _) rfl ?_ | refine OW_assignV (.tuple _) rfl ?_ | refine OW_addI rfl rfl (by omega) ?_ | refine OW_subI rfl rfl (by omega) ?_ | refine OW_mulI rfl rfl (by omega) ?_ | refine OW_lss rfl rfl ?_ | refine OW_extract rfl rfl ?_ | refine OW_gtr rfl rfl ?_ | refine OW_leq rfl rfl ?_ | refine OW_geq rfl rfl ?_ | refine OW_eql rfl rfl ?_ | refine OW_neq rfl rfl ?_ | refine OW_not rfl ?_ | refine OW_pickT rfl _ rfl ?_ | refine OW_pickF rfl (.bool _) rfl ?_ | refine OW_pickB rfl rfl rfl ?_ | refine OW_move ?_ | refine OW_assign ?_ | refine OW_pass rfl ?_ | refine OW_take rfl ?_ | refine OW_lenS (by first | with_reducible exact und_bytes | with_reducible exact und_bytess) rfl ?_ | refine OW_convInt (by first | with_reducible exact und_u8 | with_reducible exact und_u64 | with_reducible exact und_int | with_reducible exact und_u32) (by first | with_reducible exact und_u8 | with_reducible exact und_u64 | with_reducible exact und_int | with_reducible exact und_u32) rfl ?_ | refine OW_add rfl rfl ?_ | refine OW_sub rfl rfl ?_ | refine OW_mul rfl rfl ?_ | refine OW_min2 rfl rfl ?_ | refine OW_max2 rfl rfl ?_ | refine OW_neg rfl ?_ | refine CW_block ?_ | refine CW_condT rfl ?_ | refine CW_condF rfl ?_ | refine CW_exit ?_ | refine CW_ret ?_ | refine CW_skip ?_ | refine LW_seq ?_ | refine LW_regC ?_ | refine LW_condC ?_ | refine LW_regF ?_ | refine LW_condF ?_ | refine FW_seq ?_ | refine FW_region (by kernel_rfl) ?_ | refine FW_block ?_ | refine FW_condT rfl ?_ | refine FW_condF rfl ?_ | refine FW_exit ?_ | refine FW_ret ?_ | refine FW_skip ?_ | refine LW_ret ?_ | refine LW_skip ?_ | refine thenE_exit ?_ | refine thenE_ret ?_ | refine inBlockE_normal ?_ | refine inBlockE_same ?_ | refine inBlockE_ret ?_ | refine inBlockE_ne (by rfl) ?_ | refine OW_eqlB (by with_reducible exact und_bool) rfl rfl ?_ | refine OW_neqB (by with_reducible exact und_bool) rfl rfl ?_ | refine OW_idxS (by with_reducible exact und_bytes) one_u8 rfl rfl _ rfl (by omega) ?_ | refine OW_idxS (by with_reducible exact und_bytess) one_bytes rfl rfl _ rfl (by omega) ?_ | refine OW_load1 (by first | with_reducible exact one_u8 | with_reducible exact one_bytes) rfl _ (by assumption) ?_)
  exact hEnd.out) (k : B) : A := h ⟨k⟩
theorem oy_LShaCut {A B : Prop} (h : Held B → A := by
  intro hEnd
  repeat (first
    | refine OY_done ?_
    | (apply OY_p _ rfl
       · intro wd
         (first | (refine OW_isLoad ?_; refine OW_loadT s_agg_Tag rfl (by apply_assumption; assumption) (shaL_length _) ?_) | refine OW_eqlRT s_eqr_Tag rfl rfl (shaL_length _) ?_ | refine OW_neqRF s_eqr_Tag rfl rfl (shaL_length _) ?_ | refine OW_eqlT rfl rfl rfl ?_ | refine OW_moveV (.int _ _) rfl ?_ | refine OW_moveV (.slice _ _ _) rfl ?_ | refine OW_moveV (.bool _) rfl ?_ | refine OW_moveV (.pointer _) rfl ?_ | refine OW_moveV (.string _) rfl ?_ | refine OW_moveV (.agg _) rfl ?_ | refine OW_moveV (.tuple _) rfl ?_ | refine OW_nil ?_ | refine thenE_normal ?_ | refine CW_seq ?_ | refine CW_region (by kernel_rfl) ?_ | refine OW_assignV (.int _ _) rfl ?_ | refine OW_assignV (.slice _ _ _) rfl ?_ | refine OW_assignV (.bool _) rfl ?_ | refine OW_assignV (.pointer _) rfl ?_ | refine OW_assignV (.string _) rfl ?_ | refine OW_assignV (.agg _) rfl ?_ | refine OW_assignV (.tuple _) rfl ?_ | refine OW_addI rfl rfl (by omega) ?_ | refine OW_subI rfl rfl (by omega) ?_ | refine OW_mulI rfl rfl (by omega) ?_ | refine OW_lss rfl rfl ?_ | refine OW_extract rfl rfl ?_ | refine OW_gtr rfl rfl ?_ | refine OW_leq rfl rfl ?_ | refine OW_geq rfl rfl ?_ | refine OW_eql rfl rfl ?_ | refine OW_neq rfl rfl ?_ | refine OW_not rfl ?_ | refine OW_pickT rfl _ rfl ?_ | refine OW_pickF rfl (.bool _) rfl ?_ | refine OW_pickB rfl rfl rfl ?_ | refine OW_move ?_ | refine OW_assign ?_ | refine OW_pass rfl ?_ | refine OW_take rfl ?_ | refine OW_lenS (by first | with_reducible exact und_bytes | with_reducible exact und_bytess) rfl ?_ | refine OW_convInt (by first | with_reducible exact und_u8 | with_reducible exact und_u64 | with_reducible exact und_int | with_reducible exact und_u32) (by first | with_reducible exact und_u8 | with_reducible exact und_u64 | with_reducible exact und_int | with_reducible exact und_u32) rfl ?_ | refine OW_add rfl rfl ?_ | refine OW_sub rfl rfl ?_ | refine OW_mul rfl rfl ?_ | refine OW_min2 rfl rfl ?_ | refine OW_max2 rfl rfl ?_ | refine OW_neg rfl ?_ | refine CW_block ?_ | refine CW_condT rfl ?_ | refine CW_condF rfl ?_ | refine CW_exit ?_ | refine CW_ret ?_ | refine CW_skip ?_ | refine LW_seq ?_ | refine LW_regC ?_ | refine LW_condC ?_ | refine LW_regF ?_ | refine LW_condF ?_ | refine FW_seq ?_ | refine FW_region (by kernel_rfl) ?_ | refine FW_block ?_ | refine FW_condT rfl ?_ | refine FW_condF rfl ?_ | refine FW_exit ?_ | refine FW_ret ?_ | refine FW_skip ?_ | refine LW_ret ?_ | refine LW_skip ?_ | refine thenE_exit ?_ | refine thenE_ret ?_ | refine inBlockE_normal ?_ | refine inBlockE_same ?_ | refine inBlockE_ret ?_ | refine inBlockE_ne (by rfl) ?_ | refine OW_eqlB (by with_reducible exact und_bool) rfl rfl ?_ | refine OW_neqB (by with_reducible exact und_bool) rfl rfl ?_ | refine OW_idxS (by with_reducible exact und_bytes) one_u8 rfl rfl _ rfl (by omega) ?_ | refine OW_idxS (by with_reducible exact und_bytess) one_bytes rfl rfl _ rfl (by omega) ?_ | refine OW_load1 (by first | with_reducible exact one_u8 | with_reducible exact one_bytes) rfl _ (by assumption) ?_)
         refine OW_nil ?_
         exact stay_mk _ _ _ _)
    | (apply OY_q _ rfl
       · intro wd hwd
         (first | (refine OW_isLoad ?_; refine OW_loadT s_agg_Tag rfl (by apply_assumption; assumption) (shaL_length _) ?_) | refine OW_eqlRT s_eqr_Tag rfl rfl (shaL_length _) ?_ | refine OW_neqRF s_eqr_Tag rfl rfl (shaL_length _) ?_ | refine OW_eqlT rfl rfl rfl ?_ | refine OW_moveV (.int _ _) rfl ?_ | refine OW_moveV (.slice _ _ _) rfl ?_ | refine OW_moveV (.bool _) rfl ?_ | refine OW_moveV (.pointer _) rfl ?_ | refine OW_moveV (.string _) rfl ?_ | refine OW_moveV (.agg _) rfl ?_ | refine OW_moveV (.tuple _) rfl ?_ | refine OW_nil ?_ | refine thenE_normal ?_ | refine CW_seq ?_ | refine CW_region (by kernel_rfl) ?_ | refine OW_assignV (.int _ _) rfl ?_ | refine OW_assignV (.slice _ _ _) rfl ?_ | refine OW_assignV (.bool _) rfl ?_ | refine OW_assignV (.pointer _) rfl ?_ | refine OW_assignV (.string _) rfl ?_ | refine OW_assignV (.agg _) rfl ?_ | refine OW_assignV (.tuple _) rfl ?_ | refine OW_addI rfl rfl (by omega) ?_ | refine OW_subI rfl rfl (by omega) ?_ | refine OW_mulI rfl rfl (by omega) ?_ | refine OW_lss rfl rfl ?_ | refine OW_extract rfl rfl ?_ | refine OW_gtr rfl rfl ?_ | refine OW_leq rfl rfl ?_ | refine OW_geq rfl rfl ?_ | refine OW_eql rfl rfl ?_ | refine OW_neq rfl rfl ?_ | refine OW_not rfl ?_ | refine OW_pickT rfl _ rfl ?_ | refine OW_pickF rfl (.bool _) rfl ?_ | refine OW_pickB rfl rfl rfl ?_ | refine OW_move ?_ | refine OW_assign ?_ | refine OW_pass rfl ?_ | refine OW_take rfl ?_ | refine OW_lenS (by first | with_reducible exact und_bytes | with_reducible exact und_bytess) rfl ?_ | refine OW_convInt (by first | with_reducible exact und_u8 | with_reducible exact und_u64 | with_reducible exact und_int | with_reducible exact und_u32) (by first | with_reducible exact und_u8 | with_reducible exact und_u64 | with_reducible exact und_int | with_reducible exact und_u32) rfl ?_ | refine OW_add rfl rfl ?_ | refine OW_sub rfl rfl ?_ | refine OW_mul rfl rfl ?_ | refine OW_min2 rfl rfl ?_ | refine OW_max2 rfl rfl ?_ | refine OW_neg rfl ?_ | refine CW_block ?_ | refine CW_condT rfl ?_ | refine CW_condF rfl ?_ | refine CW_exit ?_ | refine CW_ret ?_ | refine CW_skip ?_ | refine LW_seq ?_ | refine LW_regC ?_ | refine LW_condC ?_ | refine LW_regF ?_ | refine LW_condF ?_ | refine FW_seq ?_ | refine FW_region (by kernel_rfl) ?_ | refine FW_block ?_ | refine FW_condT rfl ?_ | refine FW_condF rfl ?_ | refine FW_exit ?_ | refine FW_ret ?_ | refine FW_skip ?_ | refine LW_ret ?_ | refine LW_skip ?_ | refine thenE_exit ?_ | refine thenE_ret ?_ | refine inBlockE_normal ?_ | refine inBlockE_same ?_ | refine inBlockE_ret ?_ | refine inBlockE_ne (by rfl) ?_ | refine OW_eqlB (by with_reducible exact und_bool) rfl rfl ?_ | refine OW_neqB (by with_reducible exact und_bool) rfl rfl ?_ | refine OW_idxS (by with_reducible exact und_bytes) one_u8 rfl rfl _ rfl (by omega) ?_ | refine OW_idxS (by with_reducible exact und_bytess) one_bytes rfl rfl _ rfl (by omega) ?_ | refine OW_load1 (by first | with_reducible exact one_u8 | with_reducible exact one_bytes) rfl _ (by assumption) ?_ | (refine OW_isLoad ?_; refine OW_loadBk (by first | with_reducible exact one_u8 | with_reducible exact one_bytes | with_reducible exact one_bool | with_reducible exact one_int | with_reducible exact one_errno | with_reducible exact one_u32 | with_reducible exact one_u64 | with_reducible exact one_string) rfl (by apply_assumption; assumption) _ (by first | assumption | rfl) ?_) | refine OW_load1 (by first | with_reducible exact one_u8 | with_reducible exact one_bytes | with_reducible exact one_bool | with_reducible exact one_int | with_reducible exact one_errno | with_reducible exact one_u32 | with_reducible exact one_u64 | with_reducible exact one_string) rfl _ (by apply_assumption; assumption) ?_)
         refine OW_nil ?_
         exact stay_mk _ _ _ _)
    | refine OY_ppass rfl rfl ?_
    | refine OY_qpass rfl rfl ?_
    | (apply OY_ptake _ rfl rfl
       · intro wd
         (first | (refine OW_isLoad ?_; refine OW_loadT s_agg_Tag rfl (by apply_assumption; assumption) (shaL_length _) ?_) | refine OW_eqlRT s_eqr_Tag rfl rfl (shaL_length _) ?_ | refine OW_neqRF s_eqr_Tag rfl rfl (shaL_length _) ?_ | refine OW_eqlT rfl rfl rfl ?_ | refine OW_moveV (.int _ _) rfl ?_ | refine OW_moveV (.slice _ _ _) rfl ?_ | refine OW_moveV (.bool _) rfl ?_ | refine OW_moveV (.pointer _) rfl ?_ | refine OW_moveV (.string _) rfl ?_ | refine OW_moveV (.agg _) rfl ?_ | refine OW_moveV (.tuple _) rfl ?_ | refine OW_nil ?_ | refine thenE_normal ?_ | refine CW_seq ?_ | refine CW_region (by kernel_rfl) ?_ | refine OW_assignV (.int _ _) rfl ?_ | refine OW_assignV (.slice _ _ _) rfl ?_ | refine OW_assignV (.bool _) rfl ?_ | refine OW_assignV (.pointer _) rfl ?_ | refine OW_assignV (.string _) rfl ?_ | refine OW_assignV (.agg _) rfl ?_ | refine OW_assignV (.tuple _) rfl ?_ | refine OW_addI rfl rfl (by omega) ?_ | refine OW_subI rfl rfl (by omega) ?_ | refine OW_mulI rfl rfl (by omega) ?_ | refine OW_lss rfl rfl ?_ | refine OW_extract rfl rfl ?_ | refine OW_gtr rfl rfl ?_ | refine OW_leq rfl rfl ?_ | refine OW_geq rfl rfl ?_ | refine OW_eql rfl rfl ?_ | refine OW_neq rfl rfl ?_ | refine OW_not rfl ?_ | refine OW_pickT rfl _ rfl ?_ | refine OW_pickF rfl (.bool _) rfl ?_ | refine OW_pickB rfl rfl rfl ?_ | refine OW_move ?_ | refine OW_assign ?_ | refine OW_pass rfl ?_ | refine OW_take rfl ?_ | refine OW_lenS (by first | with_reducible exact und_bytes | with_reducible exact und_bytess) rfl ?_ | refine OW_convInt (by first | with_reducible exact und_u8 | with_reducible exact und_u64 | with_reducible exact und_int | with_reducible exact und_u32) (by first | with_reducible exact und_u8 | with_reducible exact und_u64 | with_reducible exact und_int | with_reducible exact und_u32) rfl ?_ | refine OW_add rfl rfl ?_ | refine OW_sub rfl rfl ?_ | refine OW_mul rfl rfl ?_ | refine OW_min2 rfl rfl ?_ | refine OW_max2 rfl rfl ?_ | refine OW_neg rfl ?_ | refine CW_block ?_ | refine CW_condT rfl ?_ | refine CW_condF rfl ?_ | refine CW_exit ?_ | refine CW_ret ?_ | refine CW_skip ?_ | refine LW_seq ?_ | refine LW_regC ?_ | refine LW_condC ?_ | refine LW_regF ?_ | refine LW_condF ?_ | refine FW_seq ?_ | refine FW_region (by kernel_rfl) ?_ | refine FW_block ?_ | refine FW_condT rfl ?_ | refine FW_condF rfl ?_ | refine FW_exit ?_ | refine FW_ret ?_ | refine FW_skip ?_ | refine LW_ret ?_ | refine LW_skip ?_ | refine thenE_exit ?_ | refine thenE_ret ?_ | refine inBlockE_normal ?_ | refine inBlockE_same ?_ | refine inBlockE_ret ?_ | refine inBlockE_ne (by rfl) ?_ | refine OW_eqlB (by with_reducible exact und_bool) rfl rfl ?_ | refine OW_neqB (by with_reducible exact und_bool) rfl rfl ?_ | refine OW_idxS (by with_reducible exact und_bytes) one_u8 rfl rfl _ rfl (by omega) ?_ | refine OW_idxS (by with_reducible exact und_bytess) one_bytes rfl rfl _ rfl (by omega) ?_ | refine OW_load1 (by first | with_reducible exact one_u8 | with_reducible exact one_bytes) rfl _ (by assumption) ?_)
         refine OW_nil ?_
         exact stay_mk _ _ _ _)
    | (apply OY_qtake _ rfl rfl
       · intro wd hwd
         (first | (refine OW_isLoad ?_; refine OW_loadT s_agg_Tag rfl (by apply_assumption; assumption) (shaL_length _) ?_) | refine OW_eqlRT s_eqr_Tag rfl rfl (shaL_length _) ?_ | refine OW_neqRF s_eqr_Tag rfl rfl (shaL_length _) ?_ | refine OW_eqlT rfl rfl rfl ?_ | refine OW_moveV (.int _ _) rfl ?_ | refine OW_moveV (.slice _ _ _) rfl ?_ | refine OW_moveV (.bool _) rfl ?_ | refine OW_moveV (.pointer _) rfl ?_ | refine OW_moveV (.string _) rfl ?_ | refine OW_moveV (.agg _) rfl ?_ | refine OW_moveV (.tuple _) rfl ?_ | refine OW_nil ?_ | refine thenE_normal ?_ | refine CW_seq ?_ | refine CW_region (by kernel_rfl) ?_ | refine OW_assignV (.int _ _) rfl ?_ | refine OW_assignV (.slice _ _ _) rfl ?_ | refine OW_assignV (.bool _) rfl ?_ | refine OW_assignV (.pointer _) rfl ?_ | refine OW_assignV (.string _) rfl ?_ | refine OW_assignV (.agg _) rfl ?_ | refine OW_assignV (.tuple _) rfl ?_ | refine OW_addI rfl rfl (by omega) ?_ | refine OW_subI rfl rfl (by omega) ?_ | refine OW_mulI rfl rfl (by omega) ?_ | refine OW_lss rfl rfl ?_ | refine OW_extract rfl rfl ?_ | refine OW_gtr rfl rfl ?_ | refine OW_leq rfl rfl ?_ | refine OW_geq rfl rfl ?_ | refine OW_eql rfl rfl ?_ | refine OW_neq rfl rfl ?_ | refine OW_not rfl ?_ | refine OW_pickT rfl _ rfl ?_ | refine OW_pickF rfl (.bool _) rfl ?_ | refine OW_pickB rfl rfl rfl ?_ | refine OW_move ?_ | refine OW_assign ?_ | refine OW_pass rfl ?_ | refine OW_take rfl ?_ | refine OW_lenS (by first | with_reducible exact und_bytes | with_reducible exact und_bytess) rfl ?_ | refine OW_convInt (by first | with_reducible exact und_u8 | with_reducible exact und_u64 | with_reducible exact und_int | with_reducible exact und_u32) (by first | with_reducible exact und_u8 | with_reducible exact und_u64 | with_reducible exact und_int | with_reducible exact und_u32) rfl ?_ | refine OW_add rfl rfl ?_ | refine OW_sub rfl rfl ?_ | refine OW_mul rfl rfl ?_ | refine OW_min2 rfl rfl ?_ | refine OW_max2 rfl rfl ?_ | refine OW_neg rfl ?_ | refine CW_block ?_ | refine CW_condT rfl ?_ | refine CW_condF rfl ?_ | refine CW_exit ?_ | refine CW_ret ?_ | refine CW_skip ?_ | refine LW_seq ?_ | refine LW_regC ?_ | refine LW_condC ?_ | refine LW_regF ?_ | refine LW_condF ?_ | refine FW_seq ?_ | refine FW_region (by kernel_rfl) ?_ | refine FW_block ?_ | refine FW_condT rfl ?_ | refine FW_condF rfl ?_ | refine FW_exit ?_ | refine FW_ret ?_ | refine FW_skip ?_ | refine LW_ret ?_ | refine LW_skip ?_ | refine thenE_exit ?_ | refine thenE_ret ?_ | refine inBlockE_normal ?_ | refine inBlockE_same ?_ | refine inBlockE_ret ?_ | refine inBlockE_ne (by rfl) ?_ | refine OW_eqlB (by with_reducible exact und_bool) rfl rfl ?_ | refine OW_neqB (by with_reducible exact und_bool) rfl rfl ?_ | refine OW_idxS (by with_reducible exact und_bytes) one_u8 rfl rfl _ rfl (by omega) ?_ | refine OW_idxS (by with_reducible exact und_bytess) one_bytes rfl rfl _ rfl (by omega) ?_ | refine OW_load1 (by first | with_reducible exact one_u8 | with_reducible exact one_bytes) rfl _ (by assumption) ?_ | (refine OW_isLoad ?_; refine OW_loadBk (by first | with_reducible exact one_u8 | with_reducible exact one_bytes | with_reducible exact one_bool | with_reducible exact one_int | with_reducible exact one_errno | with_reducible exact one_u32 | with_reducible exact one_u64 | with_reducible exact one_string) rfl (by apply_assumption; assumption) _ (by first | assumption | rfl) ?_) | refine OW_load1 (by first | with_reducible exact one_u8 | with_reducible exact one_bytes | with_reducible exact one_bool | with_reducible exact one_int | with_reducible exact one_errno | with_reducible exact one_u32 | with_reducible exact one_u64 | with_reducible exact one_string) rfl _ (by apply_assumption; assumption) ?_)
         refine OW_nil ?_
         exact stay_mk _ _ _ _)
    | refine OY_a (actY_of rfl ?_)
    | refine OY_d (actY_of rfl ?_)
    | refine OY_a (actY_pass rfl rfl ?_)
    | refine OY_d (actY_pass rfl rfl ?_)
    | refine OY_a (actY_take rfl rfl ?_)
    | refine OY_d (actY_take rfl rfl ?_))
  exact hEnd.out) (k : B) : A := h ⟨k⟩
set_option maxHeartbeats 8000000 in
theorem lenH_any (w : World) (g : Nat) (S : Nat → Prop) (l : List UInt8) (h : HR w g S l) : Calls Try.prog 12 #[.pointer (some ⟨g, 0, none⟩)] w (RetV w (.int .i64 l.length)) := by
  obtain ⟨A, c, h1, _⟩ := h.at_
  exact len_any w g _ _ _ _ _ h1
theorem take_one {l : List UInt8} {i : Nat} : l.take i ++ (l.drop i).take 1 = l.take (i + 1) := (List.take_add).symm
set_option maxHeartbeats 8000000 in
theorem walk (w : World) (A : Option Addr) (cA : Nat) (b : List UInt8) (hb : Bs w A b) (hcb : b.length ≤ cA) (n : Int) (hn : -9223372036854775808 ≤ n ∧ n ≤ 9223372036854775807) :
    Calls Try.prog 9 #[.slice A b.length cA, .int .i64 n] w (RetV w (.bool true)) := by
  refine calls_of_CW Try.func9 rfl (by simp [Try.ntmps9]) ?_
  rw [Try.ntmps9]
  refine go_LShaCut (k := ?_)
  refine OW_callV Try.func19 (by kernel_rfl) rfl (awake_any w) rfl ?_
  intro w1 hx1
  refine go_LShaCut (k := ?_)
  refine OW_split 17 _ rfl (fun h => ?_) (fun h => ?_)
  · refine go_LShaCut (k := ?_)
    exact bodyE_ret1 rfl (.bool true) rfl ⟨rfl, hx1⟩
  have hlb : b.length ≤ 1000 := by simp at h; omega
  clear h
  refine go_LShaCut (k := ?_)
  refine OW_split 21 _ rfl (fun h => ?_) (fun h => ?_)
  · refine go_LShaCut (k := ?_)
    exact bodyE_ret1 rfl (.bool true) rfl ⟨rfl, hx1⟩
  have hn0 : 0 ≤ n := by simp at h; omega
  clear h
  refine go_LShaCut (k := ?_)
  refine CW_cond _ rfl (fun h => ?_) (fun h => ?_)
  · refine go_LShaCut (k := ?_)
    exact bodyE_ret1 rfl (.bool true) rfl ⟨rfl, hx1⟩
  have hnl : n ≤ b.length := by simp at h; omega
  clear h
  obtain ⟨m, rfl⟩ : ∃ m : Nat, n = m := ⟨n.toNat, by omega⟩
  refine go_LShaCut (k := ?_)
  refine OW_callC Try.func18 (by kernel_rfl) rfl (newHash_any w1) rfl ?_
  rintro en w2 ⟨g, rfl, hg, hx2, hG⟩
  refine ⟨_, rfl, ?_⟩
  have oG := Own.new hx1 hx2
  refine go_LShaCut (k := ?_)
  refine OW_callC Try.func18 (by kernel_rfl) rfl (newHash_any w2) rfl ?_
  rintro en w3 ⟨h, rfl, hh, hx3, hH⟩
  refine ⟨_, rfl, ?_⟩
  have oH := Own.new oG.ext hx3
  replace oG := oG.to hx3
  have hd : ∀ k, more (fun _ => False) w2 w3 k → ¬ more (fun _ => False) w1 w2 k := more_apart' hG.bd
  replace hG := hG.ext hx3
  generalize more (fun _ => False) w1 w2 = S1 at *
  generalize more (fun _ => False) w2 w3 = S2 at *
  refine go_LShaCut (k := ?_)
  refine OW_sliceBs und_bytes one_u8 (hb.ext oG.ext) rfl hcb rfl rfl ⟨_, rfl⟩ 0 m rfl rfl (by omega) ?_
  intro A1 hb1 hl1
  have e1 : (b.drop 0).take (m - 0) = b.take m := rfl
  rw [e1] at hb1 hl1
  rw [← hl1]
  refine go_LShaCut (k := ?_)
  refine OW_callC Try.func11 (by kernel_rfl) rfl (hwrite_any w3 g _ [] hG A1 _ (b.take m) hb1 (by simp; omega)) rfl ?_
  rintro en w4 ⟨rfl, hG2, hk4⟩
  refine ⟨_, rfl, ?_⟩
  replace hG := hG2
  clear hG2
  have hd4 := more_apart (w' := w4) hH.bd hd
  replace hH := hH.beside hk4 hd
  replace oH : Own w w4 S2 := ⟨(oG.step hk4).ext, oH.lo⟩
  replace oG := oG.step hk4
  rw [List.nil_append] at hG
  generalize more S1 w3 w4 = S3 at *
  refine go_LShaCut (k := ?_)
  refine OW_sliceBs und_bytes one_u8 (hb.ext oG.ext) rfl hcb rfl ⟨_, rfl⟩ rfl m b.length rfl rfl (by omega) ?_
  intro A2 hb2 hl2
  have e2 : (b.drop m).take (b.length - m) = b.drop m := List.take_of_length_le (by rw [List.length_drop]; exact Nat.le_refl _)
  rw [e2] at hb2 hl2
  rw [← hl2]
  refine go_LShaCut (k := ?_)
  refine OW_callC Try.func11 (by kernel_rfl) rfl (hwrite_any w4 g _ (b.take m) hG A2 _ (b.drop m) hb2 (by simp; omega)) rfl ?_
  rintro en w5 ⟨rfl, hG2, hk5⟩
  refine ⟨_, rfl, ?_⟩
  replace hG := hG2
  clear hG2
  have hd5 := more_apart (w' := w5) hH.bd hd4
  replace hH := hH.beside hk5 hd4
  replace oH : Own w w5 S2 := ⟨(oG.step hk5).ext, oH.lo⟩
  replace oG := oG.step hk5
  rw [List.take_append_drop] at hG
  generalize more S3 w4 w5 = S4 at *
  have hlen : ∀ l : List UInt8, ((shaL l).map bv).length = 32 := fun l => by rw [List.length_map, shaL_length]
  refine go_LShaCut (k := ?_)
  refine CW_meetB (fun e' w' => e' 0 = .slice A b.length cA ∧ e' 5 = .pointer (some ⟨g, 0, none⟩) ∧ e' 6 = .pointer (some ⟨h, 0, none⟩) ∧ ∃ S, HR w' h S b ∧ HR w' g S4 b ∧ Ext w w') ?_ ?_
  · refine CW_loop (fun e' w' => ∃ (k : Nat) (S : Nat → Prop), k ≤ b.length ∧ e' 0 = .slice A b.length cA ∧ e' 5 = .pointer (some ⟨g, 0, none⟩) ∧ e' 6 = .pointer (some ⟨h, 0, none⟩) ∧ e' 7 = .int .i64 k ∧ HR w' h S (b.take k) ∧ HR w' g S4 b ∧ (∀ j, S4 j → ¬ S j) ∧ Own w w' S) (fun e' _ => b.length - (intOf (e' 7)).toNat) ?_ ?_
    · exact ⟨0, S2, by omega, rfl, rfl, rfl, rfl, hH, hG, apart_symm hd5, oH⟩
    rintro e' w' ⟨k, S, hk, q0, q5, q6, q7, hH', hG', hd', oS⟩
    rw [upd_self q0, upd_self q5, upd_self q6, upd_self q7]
    refine go_LShaCut (k := ?_)
    refine CW_cond _ rfl (fun hh => ?_) (fun hh => ?_)
    · have hlt : k < b.length := by simpa using hh
      refine go_LShaCut (k := ?_)
      refine OW_sliceBs und_bytes one_u8 (hb.ext oS.ext) rfl hcb rfl ⟨_, rfl⟩ ⟨_, rfl⟩ k (k + 1) rfl (by omega) (by omega) ?_
      intro A3 hb3 hl3
      rw [show k + 1 - k = 1 by omega] at hb3 hl3
      rw [show k + 1 - k = ((b.drop k).take 1).length by omega]
      refine go_LShaCut (k := ?_)
      refine OW_callC Try.func11 (by kernel_rfl) rfl (hwrite_any w' h _ (b.take k) hH' A3 _ ((b.drop k).take 1) hb3 (by simp; omega)) rfl ?_
      rintro en w6 ⟨rfl, hH2, hk6⟩
      refine ⟨_, rfl, ?_⟩
      rw [take_one] at hH2
      refine go_LShaCut (k := ?_)
      refine ⟨⟨k + 1, _, hlt, rfl, rfl, rfl, rfl, hH2, hG'.beside hk6 hd', more_apart hG'.bd hd', oS.step hk6⟩, ?_⟩
      show b.length - ((k : Int) + 1).toNat < b.length - (k : Int).toNat
      omega
    · have hge : k = b.length := by simp at hh; omega
      subst hge
      rw [List.take_length] at hH'
      refine go_LShaCut (k := ?_)
      exact ⟨rfl, rfl, rfl, rfl, S, hH', hG', oS.ext⟩
  clear hG hH
  rintro e' w' ⟨q0, q5, q6, S, hH, hG, ox⟩
  rw [upd_self q0, upd_self q5, upd_self q6]
  refine go_LShaCut (k := ?_)
  refine OW_callV Try.func10 (by kernel_rfl) rfl (hsum_any w' g _ _ hG (by omega)) rfl ?_
  intro w11 hx11
  refine go_LShaCut (k := ?_)
  refine OW_allocA s_agg_Tag ?_
  intro w12 g14 hb14 hg14 hl14 hx12
  refine go_LShaCut (k := ?_)
  refine OW_storeA s_agg_Tag rfl ((shaL b).map bv) rfl (hlen _) hb14 rfl (bv_one _) ?_
  intro w13 hb14' hgr13
  have hx13 : Ext w' w13 := below_only (hx11.trans' hx12) hgr13 (by have := hx11.size; omega) (hx11.trans' hx12).size
  replace hH := hH.ext hx13
  refine go_LShaCut (k := ?_)
  refine OW_callV Try.func10 (by kernel_rfl) rfl (hsum_any w13 h _ _ hH (by omega)) rfl ?_
  intro w14 hx14
  refine go_LShaCut (k := ?_)
  refine OW_allocA s_agg_Tag ?_
  intro w15 g16 hb16 hg16 hl16 hx15
  refine go_LShaCut (k := ?_)
  refine OW_storeA s_agg_Tag rfl ((shaL b).map bv) rfl (hlen _) hb16 rfl (bv_one _) ?_
  intro w16 hb16' hgr16
  have hx1316 : Ext w13 w16 := below_only (hx14.trans' hx15) hgr16 (by have := hx14.size; omega) (hx14.trans' hx15).size
  have ox16 := (ox.trans' hx13).trans' hx1316
  replace hb14' := hb14'.ext hx1316
  replace hG := (hG.ext hx13).ext hx1316
  replace hH := hH.ext hx1316
  have hb16b := hb.ext ox16
  clear hb14 hb16 hgr13 hgr16
  refine go_LShaCut (k := ?_)
  obtain ⟨K, hK⟩ : ∃ K : World → Prop, K = fun v => Ext w16 v := ⟨_, rfl⟩
  have y14 : ∀ v, K v → Blk v g14 31 ((shaL b).map bv).toArray := fun v hv => by rw [hK] at hv; exact hb14'.ext hv
  have y16 : ∀ v, K v → Blk v g16 31 ((shaL b).map bv).toArray := fun v hv => by rw [hK] at hv; exact hb16'.ext hv
  refine CW_tree2 [7, 13, 14] (.p 0 (.p 1 (.p 2 (.p 3 (.p 4 (.p 5 (.p 6 (.q 7 (.p 8 (.a 9 (.p 10 (.p 11 (.p 12 (.q 13 (.q 14 (.p 15 (.p 16 (.p 17 (.p 18 (.p 20 (.p 21 (.d 19 (.p 22 (.p 23 (.p 24 (.p 25 (.p 27 (.p 28 (.d 26 (.p 29 (.p 30 (.p 31 .done)))))))))))))))))))))))))))))))) (K) (by kernel_rfl) (by kernel_rfl) (by kernel_rfl) ?_ ?_
  · exact fun v hv => by rw [hK]; exact hv
  intro w17 hx17 hK17
  refine oy_LShaCut (k := ?_)
  refine OW_callV Try.func14 (by kernel_rfl) rfl (shaSum_any w17 A cA b (hb16b.ext hx17) (by omega)) rfl ?_
  intro w18 hx18
  have hx1618 := hx17.trans' hx18
  have hK18 : K w18 := by rw [hK]; exact hx1618
  first | refine OW_nil (goY_mk hK18 ?_) | refine OW_nil (goY_drop K hK18 ?_)
  refine oy_LShaCut (k := ?_)
  refine OW_callV Try.func12 (by kernel_rfl) rfl (lenH_any w18 g _ _ (hG.ext hx1618)) rfl ?_
  intro w19 hx19
  have hx1619 := hx1618.trans' hx19
  have hK19 : K w19 := by rw [hK]; exact hx1619
  first | refine OW_nil (goY_mk hK19 ?_) | refine OW_nil (goY_drop K hK19 ?_)
  refine oy_LShaCut (k := ?_)
  refine OW_callV Try.func12 (by kernel_rfl) rfl (lenH_any w19 h _ _ (hH.ext hx1619)) rfl ?_
  intro w20 hx20
  have hK20 : K w20 := by rw [hK]; exact hx1619.trans' hx20
  first | refine OW_nil (goY_mk hK20 ?_) | refine OW_nil (goY_drop K hK20 ?_)
  refine oy_LShaCut (k := ?_)
  refine go_LShaCut (k := ?_)
  exact bodyE_ret1 rfl (.bool true) rfl ⟨rfl, (ox16.trans' hx1619).trans' hx20⟩
set_option maxRecDepth 100000 in
theorem lifted (os : Os) (started : os.Started) (H : Type) (enc : TypeId × Value → H) :
    ReturnsInHanded {} Try.checked os 9 .any (Rows.shaCutSpec.pre6 enc Try.prog Try.f9 Rows.shaCutRow.domain false) (Rows.shaCutSpec.post enc Try.prog Try.f9 false true false false) := by
  refine returnsInHanded_of_change (C := Try.checked) ownP started (by kernel_rfl) Try.func9
    (ChangeSpec.witness6 (enc := enc) (C := Try.checked) false ⟨#[], #[.slice none 0 0, .int .i64 0], []⟩ 8 (by kernel_rfl) (by kernel_rfl) (by kernel_rfl) (by kernel_rfl)) ?_
  intro W base args ds gs before hval0 hW hcnd _
  have hval : ∀ (j : Nat) t v, Try.f9.params[j]? = some t → args[j]? = some v → Value.okWide Try.prog W .any base t v := hval0
  have hW' := hW
  obtain ⟨p, q, hA0, hV, rfl, hfz, hnd⟩ := hW
  have hA : DataW.TrodAll enc Try.prog W 0 (fun _ => true) true Try.f9.params.toList args.toList ds p := hA0
  rw [Try.params9] at hA hval
  obtain ⟨v0, vs0, d0, ds0, p0, q0, hargs, rfl, rfl, h0, r0⟩ := trodAll_cons hA
  obtain ⟨v1, vs1, d1, ds1, p1, q1, rfl, rfl, rfl, h1, r1⟩ := trodAll_cons r0
  obtain ⟨rfl, rfl, rfl⟩ := trodAll_nil r1
  obtain rfl : args = #[v0, v1] := by cases args; simp_all
  obtain ⟨rfl, rfl⟩ := trodVars_none hV
  have k0 := h0
  have lt0 : ∀ x ∈ p0, x.block < W.heap.size := by obtain ⟨m, hm⟩ := k0; exact DataW.trod_lt m _ _ _ hm
  have k1 := h1
  have lt1 : ∀ x ∈ p1, x.block < W.heap.size := by obtain ⟨m, hm⟩ := k1; exact DataW.trod_lt m _ _ _ hm
  obtain ⟨A0, c0, l0, rfl, b0, n0⟩ := open_bytes Try.underlying22 Try.underlying5 (by kernel_rfl) (hval 0 22 v0 rfl rfl) h0
  obtain ⟨a1, rfl, rfl, rfl, w1⟩ := open_int Try.underlying3 (hval 1 3 v1 rfl rfl) h1
  have b1 := bounds_i64 w1
  clear hA0 hval0
  refine (walk W A0 c0 l0 b0 n0 a1 b1).mono fun e W' ⟨he, bel⟩ => ?_
  subst he
  exact ⟨_, rfl, _, _, _, [], _, [], hW', trodAll_mk1 (shut_bool Try.underlying4 _), (trodAll_cons_mk (Below.trod laidP (by kernel_rfl) (of_decide_eq_true (by kernel_rfl)) k0 bel lt0) (trodAll_cons_mk (Below.trod laidP (by kernel_rfl) (of_decide_eq_true (by kernel_rfl)) k1 bel lt1) trodAll_mk0)), rfl, bel.frame _, fun h => by cases h⟩
theorem over : Rows.shaCutRow.holds Try.pinned (OpenSpec.ofChange Rows.shaCutSpec) :=
  OpenClaim.holds_of_wide 9 Try.f9 rfl rfl rfl rfl rfl rfl rfl ⟨rfl, rfl, rfl, rfl, rfl⟩ rfl rfl rfl rfl rfl (by kernel_rfl) Try.func9 (by kernel_rfl)
    (of_decide_eq_true (by kernel_rfl)) (by unfold Func.isWrapper; first | (rw [if_pos (by decide +kernel)]; kernel_rfl) | (rw [if_neg (by decide +kernel)]; exact ⟨rfl, rfl⟩))
    (fun os started H enc _ => lifted os started H enc)
theorem proved : Rows.ShaCutSaid := over
#print axioms proved
end Go.Proofs.Ytikkfpgbbenheaa.lawShaCut
