/- ShaTwo: two hashes go on for themselves. No condition. -/
import Derived.Test.YtikkfpgbbenheaaShaL
namespace Go.Proofs.Ytikkfpgbbenheaa.lawShaTwo
open Go.ChangeShapes Go.WideShapes Go.ChangeAt Go.RowKit
set_option linter.unusedVariables false
theorem go_LShaTwo {A B : Prop} (h : Held B → A := by
  intro hEnd
  repeat (first | (refine OW_isLoad ?_; refine OW_loadT s_agg_Tag rfl (by apply_assumption; assumption) (shaL_length _) ?_) | refine OW_eqlRT s_eqr_Tag rfl rfl (shaL_length _) ?_ | refine OW_moveV (.int _ _) rfl ?_ | refine OW_moveV (.slice _ _ _) rfl ?_ | refine OW_moveV (.bool _) rfl ?_ | refine OW_moveV (.pointer _) rfl ?_ | refine OW_moveV (.string _) rfl ?_ | refine OW_moveV (.agg _) rfl ?_ | refine OW_moveV (.tuple _) rfl ?_ | refine OW_nil ?_ | refine thenE_normal ?_ | refine CW_seq ?_ | refine CW_region (by kernel_rfl) ?_ | refine OW_assignV (.int _ _) rfl ?_ | refine OW_assignV (.slice _ _ _) rfl ?_ | refine OW_assignV (.bool _) rfl ?_ | refine OW_assignV (.pointer _) rfl ?_ | refine OW_assignV (.string _) rfl ?_ | refine OW_assignV (.agg _) rfl ?_ | refine OW_assignV (.tuple _) rfl ?_ | refine OW_addI rfl rfl (by omega) ?_ | refine OW_subI rfl rfl (by omega) ?_ | refine OW_mulI rfl rfl (by omega) ?_ | refine OW_lss rfl rfl ?_ | refine OW_extract rfl rfl ?_ | refine OW_gtr rfl rfl ?_ | refine OW_leq rfl rfl ?_ | refine OW_geq rfl rfl ?_ | refine OW_eql rfl rfl ?_ | refine OW_neq rfl rfl ?_ | refine OW_not rfl ?_ | refine OW_pickT rfl _ rfl ?_ | refine OW_pickF rfl (.bool _) rfl ?_ | refine OW_pickB rfl rfl rfl ?_ | refine OW_move ?_ | refine OW_assign ?_ | refine OW_pass rfl ?_ | refine OW_take rfl ?_ | refine OW_lenS (by first | with_reducible exact und_bytes | with_reducible exact und_bytess) rfl ?_ | refine OW_convInt (by first | with_reducible exact und_u8 | with_reducible exact und_u64 | with_reducible exact und_int | with_reducible exact und_u32) (by first | with_reducible exact und_u8 | with_reducible exact und_u64 | with_reducible exact und_int | with_reducible exact und_u32) rfl ?_ | refine OW_add rfl rfl ?_ | refine OW_sub rfl rfl ?_ | refine OW_mul rfl rfl ?_ | refine OW_min2 rfl rfl ?_ | refine OW_max2 rfl rfl ?_ | refine OW_neg rfl ?_ | refine CW_block ?_ | refine CW_condT rfl ?_ | refine CW_condF rfl ?_ | refine CW_exit ?_ | refine CW_ret ?_ | refine CW_skip ?_ | refine LW_seq ?_ | refine LW_regC ?_ | refine LW_condC ?_ | refine LW_regF ?_ | refine LW_condF ?_ | refine FW_seq ?_ | refine FW_region (by kernel_rfl) ?_ | refine FW_block ?_ | refine FW_condT rfl ?_ | refine FW_condF rfl ?_ | refine FW_exit ?_ | refine FW_ret ?_ | refine FW_skip ?_ | refine LW_ret ?_ | refine LW_skip ?_ | refine thenE_exit ?_ | refine thenE_ret ?_ | refine inBlockE_normal ?_ | refine inBlockE_same ?_ | refine inBlockE_ret ?_ | refine inBlockE_ne (by rfl) ?_ | refine OW_eqlB (by with_reducible exact und_bool) rfl rfl ?_ | refine OW_neqB (by with_reducible exact und_bool) rfl rfl ?_ | refine OW_idxS (by with_reducible exact und_bytes) one_u8 rfl rfl _ rfl (by omega) ?_ | refine OW_idxS (by with_reducible exact und_bytess) one_bytes rfl rfl _ rfl (by omega) ?_ | refine OW_load1 (by first | with_reducible exact one_u8 | with_reducible exact one_bytes) rfl _ (by assumption) ?_)
  exact hEnd.out) (k : B) : A := h ⟨k⟩
theorem oy_LShaTwo {A B : Prop} (h : Held B → A := by
  intro hEnd
  repeat (first
    | refine OY_done ?_
    | (apply OY_p _ rfl
       · intro wd
         (first | (refine OW_isLoad ?_; refine OW_loadT s_agg_Tag rfl (by apply_assumption; assumption) (shaL_length _) ?_) | refine OW_eqlRT s_eqr_Tag rfl rfl (shaL_length _) ?_ | refine OW_moveV (.int _ _) rfl ?_ | refine OW_moveV (.slice _ _ _) rfl ?_ | refine OW_moveV (.bool _) rfl ?_ | refine OW_moveV (.pointer _) rfl ?_ | refine OW_moveV (.string _) rfl ?_ | refine OW_moveV (.agg _) rfl ?_ | refine OW_moveV (.tuple _) rfl ?_ | refine OW_nil ?_ | refine thenE_normal ?_ | refine CW_seq ?_ | refine CW_region (by kernel_rfl) ?_ | refine OW_assignV (.int _ _) rfl ?_ | refine OW_assignV (.slice _ _ _) rfl ?_ | refine OW_assignV (.bool _) rfl ?_ | refine OW_assignV (.pointer _) rfl ?_ | refine OW_assignV (.string _) rfl ?_ | refine OW_assignV (.agg _) rfl ?_ | refine OW_assignV (.tuple _) rfl ?_ | refine OW_addI rfl rfl (by omega) ?_ | refine OW_subI rfl rfl (by omega) ?_ | refine OW_mulI rfl rfl (by omega) ?_ | refine OW_lss rfl rfl ?_ | refine OW_extract rfl rfl ?_ | refine OW_gtr rfl rfl ?_ | refine OW_leq rfl rfl ?_ | refine OW_geq rfl rfl ?_ | refine OW_eql rfl rfl ?_ | refine OW_neq rfl rfl ?_ | refine OW_not rfl ?_ | refine OW_pickT rfl _ rfl ?_ | refine OW_pickF rfl (.bool _) rfl ?_ | refine OW_pickB rfl rfl rfl ?_ | refine OW_move ?_ | refine OW_assign ?_ | refine OW_pass rfl ?_ | refine OW_take rfl ?_ | refine OW_lenS (by first | with_reducible exact und_bytes | with_reducible exact und_bytess) rfl ?_ | refine OW_convInt (by first | with_reducible exact und_u8 | with_reducible exact und_u64 | with_reducible exact und_int | with_reducible exact und_u32) (by first | with_reducible exact und_u8 | with_reducible exact und_u64 | with_reducible exact und_int | with_reducible exact und_u32) rfl ?_ | refine OW_add rfl rfl ?_ | refine OW_sub rfl rfl ?_ | refine OW_mul rfl rfl ?_ | refine OW_min2 rfl rfl ?_ | refine OW_max2 rfl rfl ?_ | refine OW_neg rfl ?_ | refine CW_block ?_ | refine CW_condT rfl ?_ | refine CW_condF rfl ?_ | refine CW_exit ?_ | refine CW_ret ?_ | refine CW_skip ?_ | refine LW_seq ?_ | refine LW_regC ?_ | refine LW_condC ?_ | refine LW_regF ?_ | refine LW_condF ?_ | refine FW_seq ?_ | refine FW_region (by kernel_rfl) ?_ | refine FW_block ?_ | refine FW_condT rfl ?_ | refine FW_condF rfl ?_ | refine FW_exit ?_ | refine FW_ret ?_ | refine FW_skip ?_ | refine LW_ret ?_ | refine LW_skip ?_ | refine thenE_exit ?_ | refine thenE_ret ?_ | refine inBlockE_normal ?_ | refine inBlockE_same ?_ | refine inBlockE_ret ?_ | refine inBlockE_ne (by rfl) ?_ | refine OW_eqlB (by with_reducible exact und_bool) rfl rfl ?_ | refine OW_neqB (by with_reducible exact und_bool) rfl rfl ?_ | refine OW_idxS (by with_reducible exact und_bytes) one_u8 rfl rfl _ rfl (by omega) ?_ | refine OW_idxS (by with_reducible exact und_bytess) one_bytes rfl rfl _ rfl (by omega) ?_ | refine OW_load1 (by first | with_reducible exact one_u8 | with_reducible exact one_bytes) rfl _ (by assumption) ?_)
         refine OW_nil ?_
         exact stay_mk _ _ _ _)
    | (apply OY_q _ rfl
       · intro wd hwd
         (first | (refine OW_isLoad ?_; refine OW_loadT s_agg_Tag rfl (by apply_assumption; assumption) (shaL_length _) ?_) | refine OW_eqlRT s_eqr_Tag rfl rfl (shaL_length _) ?_ | refine OW_moveV (.int _ _) rfl ?_ | refine OW_moveV (.slice _ _ _) rfl ?_ | refine OW_moveV (.bool _) rfl ?_ | refine OW_moveV (.pointer _) rfl ?_ | refine OW_moveV (.string _) rfl ?_ | refine OW_moveV (.agg _) rfl ?_ | refine OW_moveV (.tuple _) rfl ?_ | refine OW_nil ?_ | refine thenE_normal ?_ | refine CW_seq ?_ | refine CW_region (by kernel_rfl) ?_ | refine OW_assignV (.int _ _) rfl ?_ | refine OW_assignV (.slice _ _ _) rfl ?_ | refine OW_assignV (.bool _) rfl ?_ | refine OW_assignV (.pointer _) rfl ?_ | refine OW_assignV (.string _) rfl ?_ | refine OW_assignV (.agg _) rfl ?_ | refine OW_assignV (.tuple _) rfl ?_ | refine OW_addI rfl rfl (by omega) ?_ | refine OW_subI rfl rfl (by omega) ?_ | refine OW_mulI rfl rfl (by omega) ?_ | refine OW_lss rfl rfl ?_ | refine OW_extract rfl rfl ?_ | refine OW_gtr rfl rfl ?_ | refine OW_leq rfl rfl ?_ | refine OW_geq rfl rfl ?_ | refine OW_eql rfl rfl ?_ | refine OW_neq rfl rfl ?_ | refine OW_not rfl ?_ | refine OW_pickT rfl _ rfl ?_ | refine OW_pickF rfl (.bool _) rfl ?_ | refine OW_pickB rfl rfl rfl ?_ | refine OW_move ?_ | refine OW_assign ?_ | refine OW_pass rfl ?_ | refine OW_take rfl ?_ | refine OW_lenS (by first | with_reducible exact und_bytes | with_reducible exact und_bytess) rfl ?_ | refine OW_convInt (by first | with_reducible exact und_u8 | with_reducible exact und_u64 | with_reducible exact und_int | with_reducible exact und_u32) (by first | with_reducible exact und_u8 | with_reducible exact und_u64 | with_reducible exact und_int | with_reducible exact und_u32) rfl ?_ | refine OW_add rfl rfl ?_ | refine OW_sub rfl rfl ?_ | refine OW_mul rfl rfl ?_ | refine OW_min2 rfl rfl ?_ | refine OW_max2 rfl rfl ?_ | refine OW_neg rfl ?_ | refine CW_block ?_ | refine CW_condT rfl ?_ | refine CW_condF rfl ?_ | refine CW_exit ?_ | refine CW_ret ?_ | refine CW_skip ?_ | refine LW_seq ?_ | refine LW_regC ?_ | refine LW_condC ?_ | refine LW_regF ?_ | refine LW_condF ?_ | refine FW_seq ?_ | refine FW_region (by kernel_rfl) ?_ | refine FW_block ?_ | refine FW_condT rfl ?_ | refine FW_condF rfl ?_ | refine FW_exit ?_ | refine FW_ret ?_ | refine FW_skip ?_ | refine LW_ret ?_ | refine LW_skip ?_ | refine thenE_exit ?_ | refine thenE_ret ?_ | refine inBlockE_normal ?_ | refine inBlockE_same ?_ | refine inBlockE_ret ?_ | refine inBlockE_ne (by rfl) ?_ | refine OW_eqlB (by with_reducible exact und_bool) rfl rfl ?_ | refine OW_neqB (by with_reducible exact und_bool) rfl rfl ?_ | refine OW_idxS (by with_reducible exact und_bytes) one_u8 rfl rfl _ rfl (by omega) ?_ | refine OW_idxS (by with_reducible exact und_bytess) one_bytes rfl rfl _ rfl (by omega) ?_ | refine OW_load1 (by first | with_reducible exact one_u8 | with_reducible exact one_bytes) rfl _ (by assumption) ?_ | (refine OW_isLoad ?_; refine OW_loadBk (by first | with_reducible exact one_u8 | with_reducible exact one_bytes | with_reducible exact one_bool | with_reducible exact one_int | with_reducible exact one_errno | with_reducible exact one_u32 | with_reducible exact one_u64 | with_reducible exact one_string) rfl (by apply_assumption; assumption) _ (by first | assumption | rfl) ?_) | refine OW_load1 (by first | with_reducible exact one_u8 | with_reducible exact one_bytes | with_reducible exact one_bool | with_reducible exact one_int | with_reducible exact one_errno | with_reducible exact one_u32 | with_reducible exact one_u64 | with_reducible exact one_string) rfl _ (by apply_assumption; assumption) ?_)
         refine OW_nil ?_
         exact stay_mk _ _ _ _)
    | refine OY_ppass rfl rfl ?_
    | refine OY_qpass rfl rfl ?_
    | (apply OY_ptake _ rfl rfl
       · intro wd
         (first | (refine OW_isLoad ?_; refine OW_loadT s_agg_Tag rfl (by apply_assumption; assumption) (shaL_length _) ?_) | refine OW_eqlRT s_eqr_Tag rfl rfl (shaL_length _) ?_ | refine OW_moveV (.int _ _) rfl ?_ | refine OW_moveV (.slice _ _ _) rfl ?_ | refine OW_moveV (.bool _) rfl ?_ | refine OW_moveV (.pointer _) rfl ?_ | refine OW_moveV (.string _) rfl ?_ | refine OW_moveV (.agg _) rfl ?_ | refine OW_moveV (.tuple _) rfl ?_ | refine OW_nil ?_ | refine thenE_normal ?_ | refine CW_seq ?_ | refine CW_region (by kernel_rfl) ?_ | refine OW_assignV (.int _ _) rfl ?_ | refine OW_assignV (.slice _ _ _) rfl ?_ | refine OW_assignV (.bool _) rfl ?_ | refine OW_assignV (.pointer _) rfl ?_ | refine OW_assignV (.string _) rfl ?_ | refine OW_assignV (.agg _) rfl ?_ | refine OW_assignV (.tuple _) rfl ?_ | refine OW_addI rfl rfl (by omega) ?_ | refine OW_subI rfl rfl (by omega) ?_ | refine OW_mulI rfl rfl (by omega) ?_ | refine OW_lss rfl rfl ?_ | refine OW_extract rfl rfl ?_ | refine OW_gtr rfl rfl ?_ | refine OW_leq rfl rfl ?_ | refine OW_geq rfl rfl ?_ | refine OW_eql rfl rfl ?_ | refine OW_neq rfl rfl ?_ | refine OW_not rfl ?_ | refine OW_pickT rfl _ rfl ?_ | refine OW_pickF rfl (.bool _) rfl ?_ | refine OW_pickB rfl rfl rfl ?_ | refine OW_move ?_ | refine OW_assign ?_ | refine OW_pass rfl ?_ | refine OW_take rfl ?_ | refine OW_lenS (by first | with_reducible exact und_bytes | with_reducible exact und_bytess) rfl ?_ | refine OW_convInt (by first | with_reducible exact und_u8 | with_reducible exact und_u64 | with_reducible exact und_int | with_reducible exact und_u32) (by first | with_reducible exact und_u8 | with_reducible exact und_u64 | with_reducible exact und_int | with_reducible exact und_u32) rfl ?_ | refine OW_add rfl rfl ?_ | refine OW_sub rfl rfl ?_ | refine OW_mul rfl rfl ?_ | refine OW_min2 rfl rfl ?_ | refine OW_max2 rfl rfl ?_ | refine OW_neg rfl ?_ | refine CW_block ?_ | refine CW_condT rfl ?_ | refine CW_condF rfl ?_ | refine CW_exit ?_ | refine CW_ret ?_ | refine CW_skip ?_ | refine LW_seq ?_ | refine LW_regC ?_ | refine LW_condC ?_ | refine LW_regF ?_ | refine LW_condF ?_ | refine FW_seq ?_ | refine FW_region (by kernel_rfl) ?_ | refine FW_block ?_ | refine FW_condT rfl ?_ | refine FW_condF rfl ?_ | refine FW_exit ?_ | refine FW_ret ?_ | refine FW_skip ?_ | refine LW_ret ?_ | refine LW_skip ?_ | refine thenE_exit ?_ | refine thenE_ret ?_ | refine inBlockE_normal ?_ | refine inBlockE_same ?_ | refine inBlockE_ret ?_ | refine inBlockE_ne (by rfl) ?_ | refine OW_eqlB (by with_reducible exact und_bool) rfl rfl ?_ | refine OW_neqB (by with_reducible exact und_bool) rfl rfl ?_ | refine OW_idxS (by with_reducible exact und_bytes) one_u8 rfl rfl _ rfl (by omega) ?_ | refine OW_idxS (by with_reducible exact und_bytess) one_bytes rfl rfl _ rfl (by omega) ?_ | refine OW_load1 (by first | with_reducible exact one_u8 | with_reducible exact one_bytes) rfl _ (by assumption) ?_)
         refine OW_nil ?_
         exact stay_mk _ _ _ _)
    | (apply OY_qtake _ rfl rfl
       · intro wd hwd
         (first | (refine OW_isLoad ?_; refine OW_loadT s_agg_Tag rfl (by apply_assumption; assumption) (shaL_length _) ?_) | refine OW_eqlRT s_eqr_Tag rfl rfl (shaL_length _) ?_ | refine OW_moveV (.int _ _) rfl ?_ | refine OW_moveV (.slice _ _ _) rfl ?_ | refine OW_moveV (.bool _) rfl ?_ | refine OW_moveV (.pointer _) rfl ?_ | refine OW_moveV (.string _) rfl ?_ | refine OW_moveV (.agg _) rfl ?_ | refine OW_moveV (.tuple _) rfl ?_ | refine OW_nil ?_ | refine thenE_normal ?_ | refine CW_seq ?_ | refine CW_region (by kernel_rfl) ?_ | refine OW_assignV (.int _ _) rfl ?_ | refine OW_assignV (.slice _ _ _) rfl ?_ | refine OW_assignV (.bool _) rfl ?_ | refine OW_assignV (.pointer _) rfl ?_ | refine OW_assignV (.string _) rfl ?_ | refine OW_assignV (.agg _) rfl ?_ | refine OW_assignV (.tuple _) rfl ?_ | refine OW_addI rfl rfl (by omega) ?_ | refine OW_subI rfl rfl (by omega) ?_ | refine OW_mulI rfl rfl (by omega) ?_ | refine OW_lss rfl rfl ?_ | refine OW_extract rfl rfl ?_ | refine OW_gtr rfl rfl ?_ | refine OW_leq rfl rfl ?_ | refine OW_geq rfl rfl ?_ | refine OW_eql rfl rfl ?_ | refine OW_neq rfl rfl ?_ | refine OW_not rfl ?_ | refine OW_pickT rfl _ rfl ?_ | refine OW_pickF rfl (.bool _) rfl ?_ | refine OW_pickB rfl rfl rfl ?_ | refine OW_move ?_ | refine OW_assign ?_ | refine OW_pass rfl ?_ | refine OW_take rfl ?_ | refine OW_lenS (by first | with_reducible exact und_bytes | with_reducible exact und_bytess) rfl ?_ | refine OW_convInt (by first | with_reducible exact und_u8 | with_reducible exact und_u64 | with_reducible exact und_int | with_reducible exact und_u32) (by first | with_reducible exact und_u8 | with_reducible exact und_u64 | with_reducible exact und_int | with_reducible exact und_u32) rfl ?_ | refine OW_add rfl rfl ?_ | refine OW_sub rfl rfl ?_ | refine OW_mul rfl rfl ?_ | refine OW_min2 rfl rfl ?_ | refine OW_max2 rfl rfl ?_ | refine OW_neg rfl ?_ | refine CW_block ?_ | refine CW_condT rfl ?_ | refine CW_condF rfl ?_ | refine CW_exit ?_ | refine CW_ret ?_ | refine CW_skip ?_ | refine LW_seq ?_ | refine LW_regC ?_ | refine LW_condC ?_ | refine LW_regF ?_ | refine LW_condF ?_ | refine FW_seq ?_ | refine FW_region (by kernel_rfl) ?_ | refine FW_block ?_ | refine FW_condT rfl ?_ | refine FW_condF rfl ?_ | refine FW_exit ?_ | refine FW_ret ?_ | refine FW_skip ?_ | refine LW_ret ?_ | refine LW_skip ?_ | refine thenE_exit ?_ | refine thenE_ret ?_ | refine inBlockE_normal ?_ | refine inBlockE_same ?_ | refine inBlockE_ret ?_ | refine inBlockE_ne (by rfl) ?_ | refine OW_eqlB (by with_reducible exact und_bool) rfl rfl ?_ | refine OW_neqB (by with_reducible exact und_bool) rfl rfl ?_ | refine OW_idxS (by with_reducible exact und_bytes) one_u8 rfl rfl _ rfl (by omega) ?_ | refine OW_idxS (by with_reducible exact und_bytess) one_bytes rfl rfl _ rfl (by omega) ?_ | refine OW_load1 (by first | with_reducible exact one_u8 | with_reducible exact one_bytes) rfl _ (by assumption) ?_ | (refine OW_isLoad ?_; refine OW_loadBk (by first | with_reducible exact one_u8 | with_reducible exact one_bytes | with_reducible exact one_bool | with_reducible exact one_int | with_reducible exact one_errno | with_reducible exact one_u32 | with_reducible exact one_u64 | with_reducible exact one_string) rfl (by apply_assumption; assumption) _ (by first | assumption | rfl) ?_) | refine OW_load1 (by first | with_reducible exact one_u8 | with_reducible exact one_bytes | with_reducible exact one_bool | with_reducible exact one_int | with_reducible exact one_errno | with_reducible exact one_u32 | with_reducible exact one_u64 | with_reducible exact one_string) rfl _ (by apply_assumption; assumption) ?_)
         refine OW_nil ?_
         exact stay_mk _ _ _ _)
    | refine OY_a (actY_of rfl ?_)
    | refine OY_d (actY_of rfl ?_)
    | refine OY_a (actY_pass rfl rfl ?_)
    | refine OY_d (actY_pass rfl rfl ?_)
    | refine OY_a (actY_take rfl rfl ?_)
    | refine OY_d (actY_take rfl rfl ?_))
  exact hEnd.out) (k : B) : A := h ⟨k⟩
set_option maxHeartbeats 8000000 in
theorem walk (w : World) (A : Option Addr) (cA : Nat) (a : List UInt8) (ha : Bs w A a) (hca : a.length ≤ cA) (B : Option Addr) (cB : Nat) (b : List UInt8) (hb : Bs w B b) (hcb : b.length ≤ cB) (C : Option Addr) (cC : Nat) (c : List UInt8) (hc : Bs w C c) (hcc : c.length ≤ cC) :
    Calls Try.prog 8 #[.slice A a.length cA, .slice B b.length cB, .slice C c.length cC] w (RetV w (.bool true)) := by
  refine calls_of_CW Try.func8 rfl (by simp [Try.ntmps8]) ?_
  rw [Try.ntmps8]
  refine go_LShaTwo (k := ?_)
  refine OW_callV Try.func19 (by kernel_rfl) rfl (awake_any w) rfl ?_
  intro w1 hx1
  refine go_LShaTwo (k := ?_)
  refine OW_split 19 _ rfl (fun h => ?_) (fun h => ?_)
  · refine go_LShaTwo (k := ?_)
    exact bodyE_ret1 rfl (.bool true) rfl ⟨rfl, hx1⟩
  have hla : a.length ≤ 500 := by simp at h; omega
  clear h
  refine go_LShaTwo (k := ?_)
  refine OW_split 24 _ rfl (fun h => ?_) (fun h => ?_)
  · refine go_LShaTwo (k := ?_)
    exact bodyE_ret1 rfl (.bool true) rfl ⟨rfl, hx1⟩
  have hlb : b.length ≤ 500 := by simp at h; omega
  clear h
  refine go_LShaTwo (k := ?_)
  refine CW_cond _ rfl (fun h => ?_) (fun h => ?_)
  · refine go_LShaTwo (k := ?_)
    exact bodyE_ret1 rfl (.bool true) rfl ⟨rfl, hx1⟩
  have hlc : c.length ≤ 500 := by simp at h; omega
  clear h
  refine go_LShaTwo (k := ?_)
  refine OW_callC Try.func18 (by kernel_rfl) rfl (newHash_any w1) rfl ?_
  rintro en w2 ⟨g, rfl, hg, hx2, hG⟩
  refine ⟨_, rfl, ?_⟩
  have oG := Own.new hx1 hx2
  refine go_LShaTwo (k := ?_)
  refine OW_callC Try.func18 (by kernel_rfl) rfl (newHash_any w2) rfl ?_
  rintro en w3 ⟨h, rfl, hh, hx3, hH⟩
  refine ⟨_, rfl, ?_⟩
  have oH := Own.new oG.ext hx3
  replace oG := oG.to hx3
  have hd : ∀ k, more (fun _ => False) w2 w3 k → ¬ more (fun _ => False) w1 w2 k := more_apart' hG.bd
  replace hG := hG.ext hx3
  generalize more (fun _ => False) w1 w2 = S1 at *
  generalize more (fun _ => False) w2 w3 = S2 at *
  refine go_LShaTwo (k := ?_)
  refine OW_callC Try.func11 (by kernel_rfl) rfl (hwrite_any w3 g _ [] hG A cA a (ha.ext oG.ext) (by simp; omega)) rfl ?_
  rintro en w4 ⟨rfl, hG2, hk4⟩
  refine ⟨_, rfl, ?_⟩
  replace hG := hG2
  clear hG2
  have hd4 := more_apart (w' := w4) hH.bd hd
  replace hH := hH.beside hk4 hd
  replace oH : Own w w4 S2 := ⟨(oG.step hk4).ext, oH.lo⟩
  replace oG := oG.step hk4
  rw [List.nil_append] at hG
  generalize more S1 w3 w4 = S3 at *
  refine go_LShaTwo (k := ?_)
  refine OW_callC Try.func11 (by kernel_rfl) rfl (hwrite_any w4 h _ [] hH B cB b (hb.ext oG.ext) (by simp; omega)) rfl ?_
  rintro en w5 ⟨rfl, hH2, hk5⟩
  refine ⟨_, rfl, ?_⟩
  replace hH := hH2
  clear hH2
  have hd5 := more_apart (w' := w5) hG.bd (apart_symm hd4)
  replace hG := hG.beside hk5 (apart_symm hd4)
  replace oG : Own w w5 S3 := ⟨(oH.step hk5).ext, oG.lo⟩
  replace oH := oH.step hk5
  rw [List.nil_append] at hH
  generalize more S2 w4 w5 = S4 at *
  refine go_LShaTwo (k := ?_)
  refine OW_callC Try.func11 (by kernel_rfl) rfl (hwrite_any w5 g _ a hG C cC c (hc.ext oG.ext) (by omega)) rfl ?_
  rintro en w6 ⟨rfl, hG2, hk6⟩
  refine ⟨_, rfl, ?_⟩
  replace hG := hG2
  clear hG2
  have hd6 := more_apart (w' := w6) hH.bd (apart_symm hd5)
  replace hH := hH.beside hk6 (apart_symm hd5)
  replace oH : Own w w6 S4 := ⟨(oG.step hk6).ext, oH.lo⟩
  have ox := oH.ext
  refine go_LShaTwo (k := ?_)
  refine OW_callV Try.func10 (by kernel_rfl) rfl (hsum_any w6 g _ _ hG (by simp; omega)) rfl ?_
  intro w7 hx7
  refine go_LShaTwo (k := ?_)
  refine OW_allocA s_agg_Tag ?_
  intro w8 g9 hb9 hg9 hl9 hx8
  have hlen : ∀ l : List UInt8, ((shaL l).map bv).length = 32 := fun l => by rw [List.length_map, shaL_length]
  refine go_LShaTwo (k := ?_)
  refine OW_storeA s_agg_Tag rfl ((shaL (a ++ c)).map bv) rfl (hlen _) hb9 rfl (bv_one _) ?_
  intro w9 hb9' hgr9
  have hx69 : Ext w6 w9 := below_only (hx7.trans' hx8) hgr9 (by have := hx7.size; omega) (hx7.trans' hx8).size
  replace hH := hH.ext hx69
  refine go_LShaTwo (k := ?_)
  refine OW_callV Try.func10 (by kernel_rfl) rfl (hsum_any w9 h _ _ hH (by omega)) rfl ?_
  intro w10 hx10
  refine go_LShaTwo (k := ?_)
  refine OW_allocA s_agg_Tag ?_
  intro w11 g11 hb11 hg11 hl11 hx11
  refine go_LShaTwo (k := ?_)
  refine OW_storeA s_agg_Tag rfl ((shaL b).map bv) rfl (hlen _) hb11 rfl (bv_one _) ?_
  intro w12 hb11' hgr12
  have hx912 : Ext w9 w12 := below_only (hx10.trans' hx11) hgr12 (by have := hx10.size; omega) (hx10.trans' hx11).size
  have hx612 := hx69.trans' hx912
  have ox12 := ox.trans' hx612
  replace hb9' := hb9'.ext hx912
  clear hb9 hb11 hgr9 hgr12
  refine go_LShaTwo (k := ?_)
  refine OW_append0 (base := w12.heap.size) und_bytes info_u8 rfl rfl rfl (ha.ext ox12) (by simp) (bv_one _) (by unfold maxLen; omega) (by omega) (Nat.le_refl _) ?_
  intro w13 A13 c13 ho13 hb13
  refine go_LShaTwo (k := ?_)
  refine OW_append und_bytes info_u8 rfl rfl rfl ho13 ((hc.ext ox12).ext hb13) (by simp) (bv_one _) (by unfold maxLen; omega) (by omega) hb13.size ?_
  intro w14 A14 c14 ho14 hb14
  have hx14 : Ext w12 w14 := hb13.trans hb14
  rw [← List.map_append] at ho14
  have hbs14 : Bs w14 A14 (a ++ c) := own_rd ho14
  rw [show a.length + c.length = (a ++ c).length by simp] at *
  clear ho13 ho14 hb13 hb14
  have ox14 := ox12.trans' hx14
  replace hb9' := hb9'.ext hx14
  replace hb11' := hb11'.ext hx14
  have hb14' := hb.ext ox14
  refine go_LShaTwo (k := ?_)
  obtain ⟨K, hK⟩ : ∃ K : World → Prop, K = fun v => Ext w14 v := ⟨_, rfl⟩
  have y9 : ∀ v, K v → Blk v g9 31 ((shaL (a ++ c)).map bv).toArray := fun v hv => by rw [hK] at hv; exact hb9'.ext hv
  have y11 : ∀ v, K v → Blk v g11 31 ((shaL b).map bv).toArray := fun v hv => by rw [hK] at hv; exact hb11'.ext hv
  refine CW_tree2 [0, 5] (.q 0 (.p 1 (.a 2 (.p 3 (.p 4 (.q 5 (.p 6 (.a 7 (.p 8 (.p 9 (.p 10 .done))))))))))) (K) (by kernel_rfl) (by kernel_rfl) (by kernel_rfl) ?_ ?_
  · exact fun v hv => by rw [hK]; exact hv
  intro w15 hx15 hK15
  refine oy_LShaTwo (k := ?_)
  refine OW_callV Try.func14 (by kernel_rfl) rfl (shaSum_any w15 A14 c14 (a ++ c) (hbs14.ext hx15) (by simp; omega)) rfl ?_
  intro w16 hx16
  have hK16 : K w16 := by rw [hK]; exact hx15.trans' hx16
  refine OW_nil (goY_mk hK16 ?_)
  refine oy_LShaTwo (k := ?_)
  have hx1416 := hx15.trans' hx16
  refine OW_callV Try.func14 (by kernel_rfl) rfl (shaSum_any w16 B cB b (hb14'.ext hx1416) (by omega)) rfl ?_
  intro w17 hx17
  have hK17 : K w17 := by rw [hK]; exact hx1416.trans' hx17
  refine OW_nil (goY_mk hK17 ?_)
  refine oy_LShaTwo (k := ?_)
  refine go_LShaTwo (k := ?_)
  exact bodyE_ret1 rfl (.bool true) rfl ⟨rfl, (ox14.trans' hx1416).trans' hx17⟩
set_option maxRecDepth 100000 in
theorem lifted (os : Os) (started : os.Started) (H : Type) (enc : TypeId × Value → H) :
    ReturnsInHanded {} Try.checked os 8 .any (Rows.shaTwoSpec.pre6 enc Try.prog Try.f8 Rows.shaTwoRow.domain false) (Rows.shaTwoSpec.post enc Try.prog Try.f8 false true false false) := by
  refine returnsInHanded_of_change (C := Try.checked) ownP started (by kernel_rfl) Try.func8
    (ChangeSpec.witness6 (enc := enc) (C := Try.checked) false ⟨#[], #[.slice none 0 0, .slice none 0 0, .slice none 0 0], []⟩ 8 (by kernel_rfl) (by kernel_rfl) (by kernel_rfl) (by kernel_rfl)) ?_
  intro W base args ds gs before hval0 hW hcnd _
  have hval : ∀ (j : Nat) t v, Try.f8.params[j]? = some t → args[j]? = some v → Value.okWide Try.prog W .any base t v := hval0
  have hW' := hW
  obtain ⟨p, q, hA0, hV, rfl, hfz, hnd⟩ := hW
  have hA : DataW.TrodAll enc Try.prog W 0 (fun _ => true) true Try.f8.params.toList args.toList ds p := hA0
  rw [Try.params8] at hA hval
  obtain ⟨v0, vs0, d0, ds0, p0, q0, hargs, rfl, rfl, h0, r0⟩ := trodAll_cons hA
  obtain ⟨v1, vs1, d1, ds1, p1, q1, rfl, rfl, rfl, h1, r1⟩ := trodAll_cons r0
  obtain ⟨v2, vs2, d2, ds2, p2, q2, rfl, rfl, rfl, h2, r2⟩ := trodAll_cons r1
  obtain ⟨rfl, rfl, rfl⟩ := trodAll_nil r2
  obtain rfl : args = #[v0, v1, v2] := by cases args; simp_all
  obtain ⟨rfl, rfl⟩ := trodVars_none hV
  have k0 := h0
  have lt0 : ∀ x ∈ p0, x.block < W.heap.size := by obtain ⟨m, hm⟩ := k0; exact DataW.trod_lt m _ _ _ hm
  have k1 := h1
  have lt1 : ∀ x ∈ p1, x.block < W.heap.size := by obtain ⟨m, hm⟩ := k1; exact DataW.trod_lt m _ _ _ hm
  have k2 := h2
  have lt2 : ∀ x ∈ p2, x.block < W.heap.size := by obtain ⟨m, hm⟩ := k2; exact DataW.trod_lt m _ _ _ hm
  obtain ⟨A0, c0, l0, rfl, b0, n0⟩ := open_bytes Try.underlying22 Try.underlying5 (by kernel_rfl) (hval 0 22 v0 rfl rfl) h0
  obtain ⟨A1, c1, l1, rfl, b1, n1⟩ := open_bytes Try.underlying22 Try.underlying5 (by kernel_rfl) (hval 1 22 v1 rfl rfl) h1
  obtain ⟨A2, c2, l2, rfl, b2, n2⟩ := open_bytes Try.underlying22 Try.underlying5 (by kernel_rfl) (hval 2 22 v2 rfl rfl) h2
  clear hA0 hval0
  refine (walk W A0 c0 l0 b0 n0 A1 c1 l1 b1 n1 A2 c2 l2 b2 n2).mono fun e W' ⟨he, bel⟩ => ?_
  subst he
  exact ⟨_, rfl, _, _, _, [], _, [], hW', trodAll_mk1 (shut_bool Try.underlying4 _), (trodAll_cons_mk (Below.trod laidP (by kernel_rfl) (of_decide_eq_true (by kernel_rfl)) k0 bel lt0) (trodAll_cons_mk (Below.trod laidP (by kernel_rfl) (of_decide_eq_true (by kernel_rfl)) k1 bel lt1) (trodAll_cons_mk (Below.trod laidP (by kernel_rfl) (of_decide_eq_true (by kernel_rfl)) k2 bel lt2) trodAll_mk0))), rfl, bel.frame _, fun h => by cases h⟩
theorem over : Rows.shaTwoRow.holds Try.pinned (OpenSpec.ofChange Rows.shaTwoSpec) :=
  OpenClaim.holds_of_wide 8 Try.f8 rfl rfl rfl rfl rfl rfl rfl ⟨rfl, rfl, rfl, rfl, rfl⟩ rfl rfl rfl rfl rfl (by kernel_rfl) Try.func8 (by kernel_rfl)
    (of_decide_eq_true (by kernel_rfl)) (by unfold Func.isWrapper; first | (rw [if_pos (by decide +kernel)]; kernel_rfl) | (rw [if_neg (by decide +kernel)]; exact ⟨rfl, rfl⟩))
    (fun os started H enc _ => lifted os started H enc)
theorem proved : Rows.ShaTwoSaid := over
#print axioms proved
end Go.Proofs.Ytikkfpgbbenheaa.lawShaTwo
