/- Several texts in one, as they stand in wip/src. -/
import Derived.Test.YtnfeibbnjdegfaaGw13
import Derived.Test.YtnfeibbnjdegfaaGw17
import Derived.Test.YtnfeibbnjdegfaaGw19
/- Walks: lists of lists compared; the statements' own functions on frames; the chapter's examples. -/
namespace Go.Proofs.Ytnfeibbnjdegfaa
open Go Go.RowKit
set_option linter.unusedVariables false
set_option maxRecDepth 4000
theorem go_Frm3 {A B : Prop} (h : Held B → A := by
  intro hEnd
  repeat (first | refine OW_moveV (.int _ _) rfl ?_ | refine OW_moveV (.slice _ _ _) rfl ?_ | refine OW_moveV (.bool _) rfl ?_ | refine OW_moveV (.pointer _) rfl ?_ | refine OW_moveV (.string _) rfl ?_ | refine OW_moveV (.agg _) rfl ?_ | refine OW_moveV (.tuple _) rfl ?_ | refine OW_nil ?_ | refine thenE_normal ?_ | refine CW_seq ?_ | refine CW_region (by kernel_rfl) ?_ | refine OW_assignV (.int _ _) rfl ?_ | refine OW_assignV (.slice _ _ _) rfl ?_ | refine OW_assignV (.bool _) rfl ?_ | refine OW_assignV (.pointer _) rfl ?_ | refine OW_assignV (.string _) rfl ?_ | refine OW_assignV (.agg _) rfl ?_ | refine OW_assignV (.tuple _) rfl ?_ | refine OW_addI rfl rfl (by omega) ?_ | refine OW_subI rfl rfl (by omega) ?_ | refine OW_mulI rfl rfl (by omega) ?_ | refine OW_lss rfl rfl ?_ | refine OW_extract rfl rfl ?_ | refine OW_gtr rfl rfl ?_ | refine OW_leq rfl rfl ?_ | refine OW_geq rfl rfl ?_ | refine OW_eql rfl rfl ?_ | refine OW_neq rfl rfl ?_ | refine OW_not rfl ?_ | refine OW_pickT rfl _ rfl ?_ | refine OW_pickF rfl (.bool _) rfl ?_ | refine OW_pickB rfl rfl rfl ?_ | refine OW_move ?_ | refine OW_assign ?_ | refine OW_pass rfl ?_ | refine OW_take rfl ?_ | refine OW_lenS (by first | with_reducible exact und_bytes | with_reducible exact und_bytess) rfl ?_ | refine OW_convInt (by first | with_reducible exact und_u8 | with_reducible exact und_u64 | with_reducible exact und_int | with_reducible exact und_u32) (by first | with_reducible exact und_u8 | with_reducible exact und_u64 | with_reducible exact und_int | with_reducible exact und_u32) rfl ?_ | refine OW_add rfl rfl ?_ | refine OW_sub rfl rfl ?_ | refine OW_mul rfl rfl ?_ | refine OW_min2 rfl rfl ?_ | refine OW_max2 rfl rfl ?_ | refine OW_neg rfl ?_ | refine CW_block ?_ | refine CW_condT rfl ?_ | refine CW_condF rfl ?_ | refine CW_exit ?_ | refine CW_ret ?_ | refine CW_skip ?_ | refine LW_seq ?_ | refine LW_regC ?_ | refine LW_condC ?_ | refine LW_regF ?_ | refine LW_condF ?_ | refine FW_seq ?_ | refine FW_region (by kernel_rfl) ?_ | refine FW_block ?_ | refine FW_condT rfl ?_ | refine FW_condF rfl ?_ | refine FW_exit ?_ | refine FW_ret ?_ | refine FW_skip ?_ | refine LW_ret ?_ | refine LW_skip ?_ | refine thenE_exit ?_ | refine thenE_ret ?_ | refine inBlockE_normal ?_ | refine inBlockE_same ?_ | refine inBlockE_ret ?_ | refine inBlockE_ne (by rfl) ?_ | refine OW_eqlB (by with_reducible exact und_bool) rfl rfl ?_ | refine OW_neqB (by with_reducible exact und_bool) rfl rfl ?_ | refine OW_idxS (by with_reducible exact und_bytes) one_u8 rfl rfl _ rfl (by omega) ?_ | refine OW_idxS (by with_reducible exact und_bytess) one_bytes rfl rfl _ rfl (by omega) ?_ | refine OW_load1 (by first | with_reducible exact one_u8 | with_reducible exact one_bytes) rfl _ (by assumption) ?_ | refine OW_lenS und_ints rfl ?_ | refine OW_idxS und_bytess one_bytes rfl rfl _ rfl (by omega) ?_)
  exact hEnd.out) (k : B) : A := h ⟨k⟩
theorem oy_Frm3 {A B : Prop} (h : Held B → A := by
  intro hEnd
  repeat (first
    | refine OY_done ?_
    | (apply OY_p _ rfl
       · intro wd
         (first | refine OW_moveV (.int _ _) rfl ?_ | refine OW_moveV (.slice _ _ _) rfl ?_ | refine OW_moveV (.bool _) rfl ?_ | refine OW_moveV (.pointer _) rfl ?_ | refine OW_moveV (.string _) rfl ?_ | refine OW_moveV (.agg _) rfl ?_ | refine OW_moveV (.tuple _) rfl ?_ | refine OW_nil ?_ | refine thenE_normal ?_ | refine CW_seq ?_ | refine CW_region (by kernel_rfl) ?_ | refine OW_assignV (.int _ _) rfl ?_ | refine OW_assignV (.slice _ _ _) rfl ?_ | refine OW_assignV (.bool _) rfl ?_ | refine OW_assignV (.pointer _) rfl ?_ | refine OW_assignV (.string _) rfl ?_ | refine OW_assignV (.agg _) rfl ?_ | refine OW_assignV (.tuple _) rfl ?_ | refine OW_addI rfl rfl (by omega) ?_ | refine OW_subI rfl rfl (by omega) ?_ | refine OW_mulI rfl rfl (by omega) ?_ | refine OW_lss rfl rfl ?_ | refine OW_extract rfl rfl ?_ | refine OW_gtr rfl rfl ?_ | refine OW_leq rfl rfl ?_ | refine OW_geq rfl rfl ?_ | refine OW_eql rfl rfl ?_ | refine OW_neq rfl rfl ?_ | refine OW_not rfl ?_ | refine OW_pickT rfl _ rfl ?_ | refine OW_pickF rfl (.bool _) rfl ?_ | refine OW_pickB rfl rfl rfl ?_ | refine OW_move ?_ | refine OW_assign ?_ | refine OW_pass rfl ?_ | refine OW_take rfl ?_ | refine OW_lenS (by first | with_reducible exact und_bytes | with_reducible exact und_bytess) rfl ?_ | refine OW_convInt (by first | with_reducible exact und_u8 | with_reducible exact und_u64 | with_reducible exact und_int | with_reducible exact und_u32) (by first | with_reducible exact und_u8 | with_reducible exact und_u64 | with_reducible exact und_int | with_reducible exact und_u32) rfl ?_ | refine OW_add rfl rfl ?_ | refine OW_sub rfl rfl ?_ | refine OW_mul rfl rfl ?_ | refine OW_min2 rfl rfl ?_ | refine OW_max2 rfl rfl ?_ | refine OW_neg rfl ?_ | refine CW_block ?_ | refine CW_condT rfl ?_ | refine CW_condF rfl ?_ | refine CW_exit ?_ | refine CW_ret ?_ | refine CW_skip ?_ | refine LW_seq ?_ | refine LW_regC ?_ | refine LW_condC ?_ | refine LW_regF ?_ | refine LW_condF ?_ | refine FW_seq ?_ | refine FW_region (by kernel_rfl) ?_ | refine FW_block ?_ | refine FW_condT rfl ?_ | refine FW_condF rfl ?_ | refine FW_exit ?_ | refine FW_ret ?_ | refine FW_skip ?_ | refine LW_ret ?_ | refine LW_skip ?_ | refine thenE_exit ?_ | refine thenE_ret ?_ | refine inBlockE_normal ?_ | refine inBlockE_same ?_ | refine inBlockE_ret ?_ | refine inBlockE_ne (by rfl) ?_ | refine OW_eqlB (by with_reducible exact und_bool) rfl rfl ?_ | refine OW_neqB (by with_reducible exact und_bool) rfl rfl ?_ | refine OW_idxS (by with_reducible exact und_bytes) one_u8 rfl rfl _ rfl (by omega) ?_ | refine OW_idxS (by with_reducible exact und_bytess) one_bytes rfl rfl _ rfl (by omega) ?_ | refine OW_load1 (by first | with_reducible exact one_u8 | with_reducible exact one_bytes) rfl _ (by assumption) ?_ | refine OW_lenS und_ints rfl ?_ | refine OW_idxS und_bytess one_bytes rfl rfl _ rfl (by omega) ?_)
         refine OW_nil ?_
         exact stay_mk _ _ _ _)
    | (apply OY_q _ rfl
       · intro wd hwd
         (first | refine OW_moveV (.int _ _) rfl ?_ | refine OW_moveV (.slice _ _ _) rfl ?_ | refine OW_moveV (.bool _) rfl ?_ | refine OW_moveV (.pointer _) rfl ?_ | refine OW_moveV (.string _) rfl ?_ | refine OW_moveV (.agg _) rfl ?_ | refine OW_moveV (.tuple _) rfl ?_ | refine OW_nil ?_ | refine thenE_normal ?_ | refine CW_seq ?_ | refine CW_region (by kernel_rfl) ?_ | refine OW_assignV (.int _ _) rfl ?_ | refine OW_assignV (.slice _ _ _) rfl ?_ | refine OW_assignV (.bool _) rfl ?_ | refine OW_assignV (.pointer _) rfl ?_ | refine OW_assignV (.string _) rfl ?_ | refine OW_assignV (.agg _) rfl ?_ | refine OW_assignV (.tuple _) rfl ?_ | refine OW_addI rfl rfl (by omega) ?_ | refine OW_subI rfl rfl (by omega) ?_ | refine OW_mulI rfl rfl (by omega) ?_ | refine OW_lss rfl rfl ?_ | refine OW_extract rfl rfl ?_ | refine OW_gtr rfl rfl ?_ | refine OW_leq rfl rfl ?_ | refine OW_geq rfl rfl ?_ | refine OW_eql rfl rfl ?_ | refine OW_neq rfl rfl ?_ | refine OW_not rfl ?_ | refine OW_pickT rfl _ rfl ?_ | refine OW_pickF rfl (.bool _) rfl ?_ | refine OW_pickB rfl rfl rfl ?_ | refine OW_move ?_ | refine OW_assign ?_ | refine OW_pass rfl ?_ | refine OW_take rfl ?_ | refine OW_lenS (by first | with_reducible exact und_bytes | with_reducible exact und_bytess) rfl ?_ | refine OW_convInt (by first | with_reducible exact und_u8 | with_reducible exact und_u64 | with_reducible exact und_int | with_reducible exact und_u32) (by first | with_reducible exact und_u8 | with_reducible exact und_u64 | with_reducible exact und_int | with_reducible exact und_u32) rfl ?_ | refine OW_add rfl rfl ?_ | refine OW_sub rfl rfl ?_ | refine OW_mul rfl rfl ?_ | refine OW_min2 rfl rfl ?_ | refine OW_max2 rfl rfl ?_ | refine OW_neg rfl ?_ | refine CW_block ?_ | refine CW_condT rfl ?_ | refine CW_condF rfl ?_ | refine CW_exit ?_ | refine CW_ret ?_ | refine CW_skip ?_ | refine LW_seq ?_ | refine LW_regC ?_ | refine LW_condC ?_ | refine LW_regF ?_ | refine LW_condF ?_ | refine FW_seq ?_ | refine FW_region (by kernel_rfl) ?_ | refine FW_block ?_ | refine FW_condT rfl ?_ | refine FW_condF rfl ?_ | refine FW_exit ?_ | refine FW_ret ?_ | refine FW_skip ?_ | refine LW_ret ?_ | refine LW_skip ?_ | refine thenE_exit ?_ | refine thenE_ret ?_ | refine inBlockE_normal ?_ | refine inBlockE_same ?_ | refine inBlockE_ret ?_ | refine inBlockE_ne (by rfl) ?_ | refine OW_eqlB (by with_reducible exact und_bool) rfl rfl ?_ | refine OW_neqB (by with_reducible exact und_bool) rfl rfl ?_ | refine OW_idxS (by with_reducible exact und_bytes) one_u8 rfl rfl _ rfl (by omega) ?_ | refine OW_idxS (by with_reducible exact und_bytess) one_bytes rfl rfl _ rfl (by omega) ?_ | refine OW_load1 (by first | with_reducible exact one_u8 | with_reducible exact one_bytes) rfl _ (by assumption) ?_ | refine OW_lenS und_ints rfl ?_ | refine OW_idxS und_bytess one_bytes rfl rfl _ rfl (by omega) ?_ | (refine OW_isLoad ?_; refine OW_loadBk (by first | with_reducible exact one_u8 | with_reducible exact one_bytes | with_reducible exact one_bool | with_reducible exact one_int | with_reducible exact one_errno | with_reducible exact one_u32 | with_reducible exact one_u64 | with_reducible exact one_string) rfl (by apply_assumption; assumption) _ (by first | assumption | rfl) ?_) | refine OW_load1 (by first | with_reducible exact one_u8 | with_reducible exact one_bytes | with_reducible exact one_bool | with_reducible exact one_int | with_reducible exact one_errno | with_reducible exact one_u32 | with_reducible exact one_u64 | with_reducible exact one_string) rfl _ (by apply_assumption; assumption) ?_)
         refine OW_nil ?_
         exact stay_mk _ _ _ _)
    | refine OY_ppass rfl rfl ?_
    | refine OY_qpass rfl rfl ?_
    | (apply OY_ptake _ rfl rfl
       · intro wd
         (first | refine OW_moveV (.int _ _) rfl ?_ | refine OW_moveV (.slice _ _ _) rfl ?_ | refine OW_moveV (.bool _) rfl ?_ | refine OW_moveV (.pointer _) rfl ?_ | refine OW_moveV (.string _) rfl ?_ | refine OW_moveV (.agg _) rfl ?_ | refine OW_moveV (.tuple _) rfl ?_ | refine OW_nil ?_ | refine thenE_normal ?_ | refine CW_seq ?_ | refine CW_region (by kernel_rfl) ?_ | refine OW_assignV (.int _ _) rfl ?_ | refine OW_assignV (.slice _ _ _) rfl ?_ | refine OW_assignV (.bool _) rfl ?_ | refine OW_assignV (.pointer _) rfl ?_ | refine OW_assignV (.string _) rfl ?_ | refine OW_assignV (.agg _) rfl ?_ | refine OW_assignV (.tuple _) rfl ?_ | refine OW_addI rfl rfl (by omega) ?_ | refine OW_subI rfl rfl (by omega) ?_ | refine OW_mulI rfl rfl (by omega) ?_ | refine OW_lss rfl rfl ?_ | refine OW_extract rfl rfl ?_ | refine OW_gtr rfl rfl ?_ | refine OW_leq rfl rfl ?_ | refine OW_geq rfl rfl ?_ | refine OW_eql rfl rfl ?_ | refine OW_neq rfl rfl ?_ | refine OW_not rfl ?_ | refine OW_pickT rfl _ rfl ?_ | refine OW_pickF rfl (.bool _) rfl ?_ | refine OW_pickB rfl rfl rfl ?_ | refine OW_move ?_ | refine OW_assign ?_ | refine OW_pass rfl ?_ | refine OW_take rfl ?_ | refine OW_lenS (by first | with_reducible exact und_bytes | with_reducible exact und_bytess) rfl ?_ | refine OW_convInt (by first | with_reducible exact und_u8 | with_reducible exact und_u64 | with_reducible exact und_int | with_reducible exact und_u32) (by first | with_reducible exact und_u8 | with_reducible exact und_u64 | with_reducible exact und_int | with_reducible exact und_u32) rfl ?_ | refine OW_add rfl rfl ?_ | refine OW_sub rfl rfl ?_ | refine OW_mul rfl rfl ?_ | refine OW_min2 rfl rfl ?_ | refine OW_max2 rfl rfl ?_ | refine OW_neg rfl ?_ | refine CW_block ?_ | refine CW_condT rfl ?_ | refine CW_condF rfl ?_ | refine CW_exit ?_ | refine CW_ret ?_ | refine CW_skip ?_ | refine LW_seq ?_ | refine LW_regC ?_ | refine LW_condC ?_ | refine LW_regF ?_ | refine LW_condF ?_ | refine FW_seq ?_ | refine FW_region (by kernel_rfl) ?_ | refine FW_block ?_ | refine FW_condT rfl ?_ | refine FW_condF rfl ?_ | refine FW_exit ?_ | refine FW_ret ?_ | refine FW_skip ?_ | refine LW_ret ?_ | refine LW_skip ?_ | refine thenE_exit ?_ | refine thenE_ret ?_ | refine inBlockE_normal ?_ | refine inBlockE_same ?_ | refine inBlockE_ret ?_ | refine inBlockE_ne (by rfl) ?_ | refine OW_eqlB (by with_reducible exact und_bool) rfl rfl ?_ | refine OW_neqB (by with_reducible exact und_bool) rfl rfl ?_ | refine OW_idxS (by with_reducible exact und_bytes) one_u8 rfl rfl _ rfl (by omega) ?_ | refine OW_idxS (by with_reducible exact und_bytess) one_bytes rfl rfl _ rfl (by omega) ?_ | refine OW_load1 (by first | with_reducible exact one_u8 | with_reducible exact one_bytes) rfl _ (by assumption) ?_ | refine OW_lenS und_ints rfl ?_ | refine OW_idxS und_bytess one_bytes rfl rfl _ rfl (by omega) ?_)
         refine OW_nil ?_
         exact stay_mk _ _ _ _)
    | (apply OY_qtake _ rfl rfl
       · intro wd hwd
         (first | refine OW_moveV (.int _ _) rfl ?_ | refine OW_moveV (.slice _ _ _) rfl ?_ | refine OW_moveV (.bool _) rfl ?_ | refine OW_moveV (.pointer _) rfl ?_ | refine OW_moveV (.string _) rfl ?_ | refine OW_moveV (.agg _) rfl ?_ | refine OW_moveV (.tuple _) rfl ?_ | refine OW_nil ?_ | refine thenE_normal ?_ | refine CW_seq ?_ | refine CW_region (by kernel_rfl) ?_ | refine OW_assignV (.int _ _) rfl ?_ | refine OW_assignV (.slice _ _ _) rfl ?_ | refine OW_assignV (.bool _) rfl ?_ | refine OW_assignV (.pointer _) rfl ?_ | refine OW_assignV (.string _) rfl ?_ | refine OW_assignV (.agg _) rfl ?_ | refine OW_assignV (.tuple _) rfl ?_ | refine OW_addI rfl rfl (by omega) ?_ | refine OW_subI rfl rfl (by omega) ?_ | refine OW_mulI rfl rfl (by omega) ?_ | refine OW_lss rfl rfl ?_ | refine OW_extract rfl rfl ?_ | refine OW_gtr rfl rfl ?_ | refine OW_leq rfl rfl ?_ | refine OW_geq rfl rfl ?_ | refine OW_eql rfl rfl ?_ | refine OW_neq rfl rfl ?_ | refine OW_not rfl ?_ | refine OW_pickT rfl _ rfl ?_ | refine OW_pickF rfl (.bool _) rfl ?_ | refine OW_pickB rfl rfl rfl ?_ | refine OW_move ?_ | refine OW_assign ?_ | refine OW_pass rfl ?_ | refine OW_take rfl ?_ | refine OW_lenS (by first | with_reducible exact und_bytes | with_reducible exact und_bytess) rfl ?_ | refine OW_convInt (by first | with_reducible exact und_u8 | with_reducible exact und_u64 | with_reducible exact und_int | with_reducible exact und_u32) (by first | with_reducible exact und_u8 | with_reducible exact und_u64 | with_reducible exact und_int | with_reducible exact und_u32) rfl ?_ | refine OW_add rfl rfl ?_ | refine OW_sub rfl rfl ?_ | refine OW_mul rfl rfl ?_ | refine OW_min2 rfl rfl ?_ | refine OW_max2 rfl rfl ?_ | refine OW_neg rfl ?_ | refine CW_block ?_ | refine CW_condT rfl ?_ | refine CW_condF rfl ?_ | refine CW_exit ?_ | refine CW_ret ?_ | refine CW_skip ?_ | refine LW_seq ?_ | refine LW_regC ?_ | refine LW_condC ?_ | refine LW_regF ?_ | refine LW_condF ?_ | refine FW_seq ?_ | refine FW_region (by kernel_rfl) ?_ | refine FW_block ?_ | refine FW_condT rfl ?_ | refine FW_condF rfl ?_ | refine FW_exit ?_ | refine FW_ret ?_ | refine FW_skip ?_ | refine LW_ret ?_ | refine LW_skip ?_ | refine thenE_exit ?_ | refine thenE_ret ?_ | refine inBlockE_normal ?_ | refine inBlockE_same ?_ | refine inBlockE_ret ?_ | refine inBlockE_ne (by rfl) ?_ | refine OW_eqlB (by with_reducible exact und_bool) rfl rfl ?_ | refine OW_neqB (by with_reducible exact und_bool) rfl rfl ?_ | refine OW_idxS (by with_reducible exact und_bytes) one_u8 rfl rfl _ rfl (by omega) ?_ | refine OW_idxS (by with_reducible exact und_bytess) one_bytes rfl rfl _ rfl (by omega) ?_ | refine OW_load1 (by first | with_reducible exact one_u8 | with_reducible exact one_bytes) rfl _ (by assumption) ?_ | refine OW_lenS und_ints rfl ?_ | refine OW_idxS und_bytess one_bytes rfl rfl _ rfl (by omega) ?_ | (refine OW_isLoad ?_; refine OW_loadBk (by first | with_reducible exact one_u8 | with_reducible exact one_bytes | with_reducible exact one_bool | with_reducible exact one_int | with_reducible exact one_errno | with_reducible exact one_u32 | with_reducible exact one_u64 | with_reducible exact one_string) rfl (by apply_assumption; assumption) _ (by first | assumption | rfl) ?_) | refine OW_load1 (by first | with_reducible exact one_u8 | with_reducible exact one_bytes | with_reducible exact one_bool | with_reducible exact one_int | with_reducible exact one_errno | with_reducible exact one_u32 | with_reducible exact one_u64 | with_reducible exact one_string) rfl _ (by apply_assumption; assumption) ?_)
         refine OW_nil ?_
         exact stay_mk _ _ _ _)
    | refine OY_a (actY_of rfl ?_)
    | refine OY_d (actY_of rfl ?_)
    | refine OY_a (actY_pass rfl rfl ?_)
    | refine OY_d (actY_pass rfl rfl ?_)
    | refine OY_a (actY_take rfl rfl ?_)
    | refine OY_d (actY_take rfl rfl ?_))
  exact hEnd.out) (k : B) : A := h ⟨k⟩
set_option maxHeartbeats 8000000 in
theorem refLSame_any (w : World) (A B : Option Addr) (c d : Nat) (vs us : List BV) (h1 : ArgL w A vs) (h2 : ArgL w B us) (hl : vs.length ≤ 100000) (hv : ∀ v ∈ vs, v.2.2.length ≤ 1000000) (hu : ∀ v ∈ us, v.2.2.length ≤ 1000000) :
    Calls Try.prog 40 #[.slice A vs.length c, .slice B us.length d] w (RetV w (.bool (vs.map pay == us.map pay))) := by
  have hne : vs.length ≠ us.length → (vs.map pay == us.map pay) = false := fun h => beq_eq_false_iff_ne.2 (fun hh => h (by simpa using congrArg List.length hh))
  refine calls_of_CW Try.func40 rfl (by simp [Try.ntmps40]) ?_
  rw [Try.ntmps40]
  refine go_Frm3 (k := ?_)
  refine CW_cond _ rfl (fun h => ?_) (fun h => ?_)
  · have hn : vs.length ≠ us.length := by intro hh; rw [hh] at h; simp at h
    rw [hne hn]
    refine go_Frm3 (k := ?_)
    exact bodyE_ret1 rfl (.bool false) rfl ⟨rfl, Ext.rfl' w⟩
  have hn : vs.length = us.length := by simp at h; omega
  clear h
  refine go_Frm3 (k := ?_)
  refine CW_loop (fun e' w' => ∃ k : Nat, k ≤ vs.length ∧ e' 0 = .slice A vs.length c ∧ e' 1 = .slice B us.length d ∧ e' 5 = .int .i64 k ∧ (vs.map pay).take k = (us.map pay).take k ∧ Ext w w') (fun e' _ => vs.length - (intOf (e' 5)).toNat) ?_ ?_
  · exact ⟨0, by omega, rfl, rfl, rfl, rfl, Ext.rfl' w⟩
  rintro e1 w1 ⟨k, hk, q0, q1, q5, he, hx⟩
  rw [upd_self q0, upd_self q1, upd_self q5]
  refine go_Frm3 (k := ?_)
  refine CW_cond _ rfl (fun h => ?_) (fun h => ?_)
  · have hlt : k < vs.length := by simpa using h
    clear h
    have hlu : k < us.length := by omega
    obtain ⟨ad, rfl, hcA⟩ := (h1.ext hx).cell hlt
    obtain ⟨bd, rfl, hcB⟩ := (h2.ext hx).cell hlu
    have hbA := (h1.bs _ (List.getElem_mem hlt)).1.ext hx
    have hbB := (h2.bs _ (List.getElem_mem hlu)).1.ext hx
    have hvA := hv _ (List.getElem_mem hlt)
    have hvB := hu _ (List.getElem_mem hlu)
    have hstep : (vs[k]).2.2 = (us[k]).2.2 → (vs.map pay).take (k + 1) = (us.map pay).take (k + 1) := fun hh => by
      rw [take_succ_get _ _ (by simpa using hlt), take_succ_get _ _ (by simpa using hlu), he, List.getElem_map, List.getElem_map]
      show _ ++ [(vs[k]).2.2] = _ ++ [(us[k]).2.2]
      rw [hh]
    have hno : (vs[k]).2.2 ≠ (us[k]).2.2 → (vs.map pay == us.map pay) = false := fun hh => beq_eq_false_iff_ne.2 (fun h9 => hh (by
      have := congrArg (fun l => l[k]?) h9
      simpa [List.getElem?_map, List.getElem?_eq_getElem hlt, List.getElem?_eq_getElem hlu] using this))
    generalize vs[k] = x at *
    generalize us[k] = y at *
    obtain ⟨xA, xc, xl⟩ := x
    obtain ⟨yA, yc, yl⟩ := y
    replace hcA : w1.cell? (ad.add k) = some (.slice xA xl.length xc) := hcA
    replace hcB : w1.cell? (bd.add k) = some (.slice yA yl.length yc) := hcB
    simp only at hbA hbB hvA hvB hstep hno
    refine go_Frm3 (k := ?_)
    obtain ⟨C, hC⟩ : ∃ C : World → Prop, C = fun v => Ext w1 v := ⟨_, rfl⟩
    have y_hcA := cellE hC hcA
    have y_hcB := cellE hC hcB
    refine CW_tree2 [3, 7] (.p 0 (.p 1 (.p 2 (.q 3 (.p 4 (.p 5 (.p 6 (.q 7 (.d 8 (.p 9 .done)))))))))) (C) (by kernel_rfl) (by kernel_rfl) (by kernel_rfl) ?_ ?_
    · exact inE hC
    intro w2 hx2 h_C
    refine oy_Frm3 (k := ?_)
    refine OW_callV Try.func32 (by kernel_rfl) rfl (refSame_any w2 xA yA xl yl xc yc (hbA.ext hx2) (hbB.ext hx2) (by omega)) rfl ?_
    intro w3 hx3
    by_cases hxy : xl = yl
    · rw [beq_iff_eq.2 hxy]
      first | refine OW_nil (goY_mkE hC (hx2.trans' hx3) ?_) | refine OW_nil (goY_dropE hC (hx2.trans' hx3) ?_)
      refine oy_Frm3 (k := ?_)
      refine go_Frm3 (k := ?_)
      refine ⟨⟨k + 1, hlt, rfl, rfl, rfl, hstep hxy, (hx.trans' hx2).trans' hx3⟩, ?_⟩
      show vs.length - ((k : Int) + 1).toNat < vs.length - (k : Int).toNat
      omega
    · rw [beq_eq_false_iff_ne.2 hxy, hno hxy]
      first | refine OW_nil (goY_mkE hC (hx2.trans' hx3) ?_) | refine OW_nil (goY_dropE hC (hx2.trans' hx3) ?_)
      refine oy_Frm3 (k := ?_)
      refine go_Frm3 (k := ?_)
      exact bodyE_ret1 rfl (.bool false) rfl ⟨rfl, (hx.trans' hx2).trans' hx3⟩
  · have hge : k = vs.length := by simp at h; omega
    subst hge
    have heq : vs.map pay = us.map pay := by
      rw [List.take_of_length_le (by simp), List.take_of_length_le (by simp; omega)] at he
      exact he
    rw [beq_iff_eq.2 heq]
    refine go_Frm3 (k := ?_)
    exact bodyE_ret1 rfl (.bool true) rfl ⟨rfl, hx⟩
end Go.Proofs.Ytnfeibbnjdegfaa

/- Walks: frames joined; the chapter's examples. -/
namespace Go.Proofs.Ytnfeibbnjdegfaa
open Go Go.RowKit
set_option linter.unusedVariables false
set_option maxRecDepth 4000
theorem frame_head (p y : List UInt8) : (frameB p ++ y).take 4 = putL p.length 4 := by
  unfold frameB sealB
  rw [List.append_assoc, List.append_assoc, List.take_append_of_le_length (by rw [putL_length]; exact Nat.le_refl _), List.take_of_length_le (by rw [putL_length]; exact Nat.le_refl _)]
theorem nextL_cut {p y : List UInt8} {c : Nat} (hp : p.length ≤ 65536) (hc : c < p.length + 12) : nextL ((frameB p ++ y).take c) = none := by
  cases h : nextL ((frameB p ++ y).take c) with
  | none => rfl
  | some q =>
    obtain ⟨h1, h2, h3⟩ := nextL_some h
    exfalso
    have hcl : ((frameB p ++ y).take c).length ≤ c := by rw [List.length_take]; omega
    have h4 := congrArg (List.take 4) h3
    rw [List.take_take, Nat.min_eq_left (by omega), List.take_take, Nat.min_eq_left (by omega), frame_head] at h4
    have h5 := frame_head q []
    rw [List.append_nil] at h5
    rw [h5] at h4
    have h6 := congrArg loadL h4
    rw [loadL_putL 4 _ (by omega), loadL_putL 4 _ (by omega)] at h6
    omega
theorem framesB_take (l : List (List UInt8)) (k : Nat) : framesB l = framesB (l.take k) ++ framesB (l.drop k) := by
  rw [← framesB_append, List.take_append_drop]
/-- A beginning of some frames. -/
theorem isAll_cut {l : List (List UInt8)} (hl : ∀ p ∈ l, p.length ≤ 65536) {k cut : Nat} (hk : (framesB (l.take k)).length ≤ cut) (hc : cut ≤ (framesB l).length) (h : ∀ (hlt : k < l.length), cut < (framesB (l.take (k + 1))).length) : IsAll ((framesB l).take cut) (l.take k) := by
  have hle : (framesB (l.take k)).length ≤ ((framesB l).take cut).length := by rw [List.length_take]; omega
  refine ⟨hle, ?_, ?_, fun p hp => hl p (List.mem_of_mem_take hp)⟩
  · rw [List.take_take, Nat.min_eq_left hk]
    rw [framesB_take l k, List.take_append_of_le_length (Nat.le_refl _), List.take_of_length_le (Nat.le_refl _)]
  · rw [List.drop_take, framesB_take l k, List.drop_append_of_le_length (Nat.le_refl _), List.drop_of_length_le (Nat.le_refl _), List.nil_append]
    by_cases hlt : k < l.length
    · have h2 := h hlt
      rw [take_succ_get _ _ hlt, framesB_snoc, List.length_append, frameB_length] at h2
      rw [List.drop_eq_getElem_cons hlt, framesB_cons]
      exact nextL_cut (hl _ (List.getElem_mem hlt)) (by omega)
    · rw [List.drop_of_length_le (by omega)]
      simp [framesB, nextL]
theorem isAll_frames {l : List (List UInt8)} (hl : ∀ p ∈ l, p.length ≤ 65536) {rest : List UInt8} (h : nextL rest = none) : IsAll (framesB l ++ rest) l :=
  ⟨by rw [List.length_append]; omega, by rw [List.take_append_of_le_length (Nat.le_refl _), List.take_of_length_le (Nat.le_refl _)], by rw [List.drop_append_of_le_length (Nat.le_refl _), List.drop_of_length_le (Nat.le_refl _), List.nil_append]; exact h, hl⟩
/-- Where the frames end. -/
def endsL (l : List (List UInt8)) : List Int := (List.range l.length).map fun i => ((framesB (l.take (i + 1))).length : Int)
theorem endsL_length (l : List (List UInt8)) : (endsL l).length = l.length := by simp [endsL]
theorem endsL_get {l : List (List UInt8)} {k : Nat} (h : k < l.length) : (endsL l)[k]'(by rw [endsL_length]; exact h) = ((framesB (l.take (k + 1))).length : Int) := by simp [endsL]
theorem info_intF : (Try.prog.info? 3).map (fun i => (i.zero, i.size, i.bytes)) = some (some (.int .i64 0), 1, 8) := by kernel_rfl
theorem next_zeros : nextL (List.replicate 13 0) = none := by
  cases h : nextL (List.replicate 13 0) with
  | none => rfl
  | some q =>
    obtain ⟨h1, h2, h3⟩ := nextL_some h
    exfalso
    rw [List.length_replicate] at h2
    have h5 := frame_head q []
    rw [List.append_nil, ← h3, List.take_take, Nat.min_eq_left (by omega)] at h5
    have h6 := congrArg loadL h5
    rw [loadL_putL 4 _ (by omega)] at h6
    have h7 : q.length = 0 := by rw [← h6]; rfl
    have h8 : q = [] := List.eq_nil_of_length_eq_zero h7
    subst h8
    have h9 : frameB [] = [0, 0, 0, 0] ++ (shaK [0, 0, 0, 0]).take 8 := by rw [shaK_eq]; rfl
    rw [h9] at h3
    exact absurd h3 (by decide +kernel)
end Go.Proofs.Ytnfeibbnjdegfaa

/- Walks: Records, Lasting, Recover. -/
namespace Go.Proofs.Ytnfeibbnjdegfaa
open Go Go.RowKit
set_option linter.unusedVariables false
set_option maxRecDepth 4000
theorem go_Wal3 {A B : Prop} (h : Held B → A := by
  intro hEnd
  repeat (first | refine OW_nilCheck rfl ?_ | refine OW_fieldB fldo_V0 rfl ?_ | refine OW_eqlNil und_pV rfl ?_ | refine OW_eqlNil und_pD rfl ?_ | refine OW_moveV (.int _ _) rfl ?_ | refine OW_moveV (.slice _ _ _) rfl ?_ | refine OW_moveV (.bool _) rfl ?_ | refine OW_moveV (.pointer _) rfl ?_ | refine OW_moveV (.string _) rfl ?_ | refine OW_moveV (.agg _) rfl ?_ | refine OW_moveV (.tuple _) rfl ?_ | refine OW_nil ?_ | refine thenE_normal ?_ | refine CW_seq ?_ | refine CW_region (by kernel_rfl) ?_ | refine OW_assignV (.int _ _) rfl ?_ | refine OW_assignV (.slice _ _ _) rfl ?_ | refine OW_assignV (.bool _) rfl ?_ | refine OW_assignV (.pointer _) rfl ?_ | refine OW_assignV (.string _) rfl ?_ | refine OW_assignV (.agg _) rfl ?_ | refine OW_assignV (.tuple _) rfl ?_ | refine OW_addI rfl rfl (by omega) ?_ | refine OW_subI rfl rfl (by omega) ?_ | refine OW_mulI rfl rfl (by omega) ?_ | refine OW_lss rfl rfl ?_ | refine OW_extract rfl rfl ?_ | refine OW_gtr rfl rfl ?_ | refine OW_leq rfl rfl ?_ | refine OW_geq rfl rfl ?_ | refine OW_eql rfl rfl ?_ | refine OW_neq rfl rfl ?_ | refine OW_not rfl ?_ | refine OW_pickT rfl _ rfl ?_ | refine OW_pickF rfl (.bool _) rfl ?_ | refine OW_pickB rfl rfl rfl ?_ | refine OW_move ?_ | refine OW_assign ?_ | refine OW_pass rfl ?_ | refine OW_take rfl ?_ | refine OW_lenS (by first | with_reducible exact und_bytes | with_reducible exact und_bytess) rfl ?_ | refine OW_convInt (by first | with_reducible exact und_u8 | with_reducible exact und_u64 | with_reducible exact und_int | with_reducible exact und_u32) (by first | with_reducible exact und_u8 | with_reducible exact und_u64 | with_reducible exact und_int | with_reducible exact und_u32) rfl ?_ | refine OW_add rfl rfl ?_ | refine OW_sub rfl rfl ?_ | refine OW_mul rfl rfl ?_ | refine OW_min2 rfl rfl ?_ | refine OW_max2 rfl rfl ?_ | refine OW_neg rfl ?_ | refine CW_block ?_ | refine CW_condT rfl ?_ | refine CW_condF rfl ?_ | refine CW_exit ?_ | refine CW_ret ?_ | refine CW_skip ?_ | refine LW_seq ?_ | refine LW_regC ?_ | refine LW_condC ?_ | refine LW_regF ?_ | refine LW_condF ?_ | refine FW_seq ?_ | refine FW_region (by kernel_rfl) ?_ | refine FW_block ?_ | refine FW_condT rfl ?_ | refine FW_condF rfl ?_ | refine FW_exit ?_ | refine FW_ret ?_ | refine FW_skip ?_ | refine LW_ret ?_ | refine LW_skip ?_ | refine thenE_exit ?_ | refine thenE_ret ?_ | refine inBlockE_normal ?_ | refine inBlockE_same ?_ | refine inBlockE_ret ?_ | refine inBlockE_ne (by rfl) ?_ | refine OW_eqlB (by with_reducible exact und_bool) rfl rfl ?_ | refine OW_neqB (by with_reducible exact und_bool) rfl rfl ?_ | refine OW_idxS (by with_reducible exact und_bytes) one_u8 rfl rfl _ rfl (by omega) ?_ | refine OW_idxS (by with_reducible exact und_bytess) one_bytes rfl rfl _ rfl (by omega) ?_ | refine OW_load1 (by first | with_reducible exact one_u8 | with_reducible exact one_bytes) rfl _ (by assumption) ?_ | refine OW_load1 d_ptr rfl _ (by assumption) ?_ | refine OW_load1 v_ptr rfl _ (by assumption) ?_)
  exact hEnd.out) (k : B) : A := h ⟨k⟩
/-- What Records tells. -/
def RecP (w : World) (b : List UInt8) : Ending → World → Prop := fun en w' => ∃ A c vs, en = .returned (.slice A vs.length c) ∧ IsAll b (vs.map pay) ∧ RowsB w' w.heap.size A c vs ∧ Ext w w'
theorem frames12 : ∀ vs : List (List UInt8), 12 * vs.length ≤ (framesB vs).length
  | [] => by simp [framesB]
  | v :: vs => by have := frames12 vs; rw [framesB_cons, List.length_append, frameB_length, List.length_cons]; omega
set_option maxHeartbeats 8000000 in
theorem vRecords_any (w : World) (v g : Nat) (S : Nat → Prop) (d : DS) (h : DR w g S d) (hv : VB w v g) (hl : d.all.length ≤ 100000) (hn : d.ws.length ≤ 1000000) :
    Calls Try.prog 18 #[.pointer (some ⟨v, 0, none⟩)] w (RecP w d.all) := by
  refine calls_of_LW Try.func18 rfl (by simp [Try.ntmps18]) ?_
  refine go_Wal3 (k := ?_)
  refine OW_alloc1 (.slice none 0 0) (fun w => by kernel_rfl) ?_
  intro w1 g2 hb2 hg2 hl2 hx1
  refine go_Wal3 (k := ?_)
  refine OW_callC Try.func47 (by kernel_rfl) rfl (records_any w1 (.pointer (some ⟨v, 0, none⟩)) rfl) rfl ?_
  rintro en w3 ⟨gB, rfl, hbB, hgB, hx3⟩
  refine ⟨_, rfl, ?_⟩
  have hx03 := hx1.trans' hx3
  replace hb2 := hb2.ext hx3
  refine go_Wal3 (k := ?_)
  refine LW_forget [3, 7] ?_
  intro e5 h5
  have q3 : e5 3 = .pointer (some ⟨g2, 0, none⟩) := h5 3 (by decide)
  have q7 : e5 7 = .func (.func 71) #[] #[.pointer (some ⟨gB, 0, none⟩)] := h5 7 (by decide)
  clear h5
  rw [upd_self q3, upd_self q7]
  have s1 := hx1.size
  have s3 := hx3.size
  have hlB := hbB.lt
  have hit := records_iter d w.heap.size gB v g S hl hn
  generalize hb : d.all = b at *
  refine LW_range3 (ps := [8, 9]) hit Try.func71 (by kernel_rfl) rfl rfl (fun x => rfl) (by decide) (fun k => k = g2) (fun k hk => ?_) (fun k hk => by omega) (fun W hW => ⟨by have := hW.size; omega, hbB.ext hW, (hv.ext hx03).ext hW, (h.ext hx03).ext hW⟩)
    (fun S xs W => ∃ A2 c2, Gath w.heap.size w g2 S (xs.map Prod.snd) W A2 c2) (fun _ _ _ _ => False) (fun S s W ⟨A2, c2, h⟩ k hk => (h.bd k hk).2) ?_ (fun _ _ _ _ _ h _ _ => h) ?_
    (fun x => upd (upd (upd (upd (upd e5 7 (.func (.func 71) #[] #[.pointer (some ⟨gB, 0, none⟩)])) 3 (.pointer (some ⟨g2, 0, none⟩))) 8 (.int .i64 x.1)) 9 (sv x.2)) 5 (sv x.2)) ?_ ?_ ?_ (fun c S pre W _ h _ _ => h.elim)
  · have hk : k = gB := hk
    subst hk; exact ⟨hlB, by omega⟩
  · rintro S xs W W' ⟨A2, c2, h⟩ hn hk
    refine ⟨A2, c2, h.keeps hk (fun k hk2 hh => ?_) (fun k hk2 => ?_)⟩
    · have := hn k hk2; omega
    · omega
  · exact ⟨none, 0, ⟨hb2, RowsB.nil _ _, rfl, fun ad h => (by cases h), fun v h => (by simp at h), fun k hk => (by have hk : k = g2 := hk; omega), hx03⟩⟩
  · intro x l2 W
    unfold binds binds binds
    refine go_Wal3 (k := ?_)
    exact ⟨rfl, rfl, rfl⟩
  · rintro l2 S pre ⟨at_, Ax, cx, lx⟩ W hW ⟨A2, c2, h⟩ hn ⟨k1, k2, k3, k4⟩ hG
    have hsx : sv (Ax, cx, lx) = .slice Ax lx.length cx := rfl
    rw [hsx]
    have hbd2 := h.bd g2 h.in2
    have hcnt : 12 * (pre.map Prod.snd).length ≤ b.length := by
      obtain ⟨p1, p2, p3⟩ := nextL_some k2
      have := frames12 ((pre.map Prod.snd).map pay)
      rw [List.length_map] at this
      rw [List.length_drop] at p2
      omega
    refine go_Wal3 (k := ?_)
    refine OW_isLoad ?_
    refine OW_loadBk one_bytess rfl h.cell (.slice A2 (pre.map Prod.snd).length c2) rfl ?_
    refine go_Wal3 (k := ?_)
    refine OW_lit [sv (Ax, cx, lx)] und_bytess info_bytes rfl rfl (by simp [sv, Value.oneCell']) (by decide) ?_
    intro w4 g4 hb4 hg4 hx4
    have hR4 := (h.rows.ext hx4).row
    refine go_Wal3 (k := ?_)
    refine OW_appendK und_bytess info_bytes rfl rfl rfl hR4 (by simpa using hb4.rd) rfl (by simp [sv, Value.oneCell']) (by unfold maxLen; omega) (by omega) (by have := h.ext.size; have := hx4.size; omega) ?_
    intro w5 A5 c5 ho5 hg5 hw5
    have hc5 : Blk w5 g2 22 #[.slice A2 (pre.map Prod.snd).length c2] := (h.cell.ext hx4).keeps (S := fun k => ∃ ad, A2 = some ad ∧ ad.block = k) (Keeps.of_grown hg5 (fun g hg => by
      cases A2 with
      | none => cases hg
      | some ad => cases hg; exact ⟨ad, rfl, rfl⟩)) (fun ⟨ad, ha, hb⟩ => own_ne_blk hR4 (h.cell.ext hx4) (by decide) ad ha hb)
    refine go_Wal3 (k := ?_)
    refine OW_storeB one_bytess rfl (.slice A5 ((pre.map Prod.snd).length + 1) c5) rfl rfl hc5 Nat.one_pos ?_
    intro w6 hb6 hg6
    obtain ⟨hG6, hK6⟩ := h.add (v := (Ax, cx, lx)) rfl k1 k4 hx4 ho5 hg5 hw5 hb6 hg6
    refine go_Wal3 (k := ?_)
    refine ⟨hK6.mono fun k _ hk => .inl hk, fun k => S k ∨ bvB (Ax, cx, lx) k ∨ (W.heap.size ≤ k ∧ k < w6.heap.size), fun k hk => ?_, A5, c5, ?_⟩
    · rcases hk with hk | hk | hk
      · exact .inl hk
      · exact .inr (.inr hk)
      · exact .inr (.inl hk.1)
    · rw [List.map_append]
      exact hG6
  · rintro S xs W hS ⟨A2, c2, h⟩ hn hD
    refine go_Wal3 (k := ?_)
    refine OW_isLoad ?_
    refine OW_loadBk one_bytess rfl h.cell (.slice A2 (xs.map Prod.snd).length c2) rfl ?_
    refine go_Wal3 (k := ?_)
    have hkD : Keeps W (W.putObj w3.heap.size (.deferred none)) (· = w3.heap.size) := Keeps.put _ _ _
    refine leaveM_of hD (bodyE_ret1 rfl (.slice A2 (xs.map Prod.snd).length c2) rfl ⟨A2, c2, xs.map Prod.snd, rfl, hS, ?_, ?_⟩)
    · exact h.rows.keeps hkD (fun ad ha hh => by have := hn _ (h.inA ad ha); omega) (fun u hu k hk hh => by have := hn _ (h.inV u hu k hk); omega)
    · exact hkD.ext h.ext (fun k hk => by omega)
end Go.Proofs.Ytnfeibbnjdegfaa

/- Walks: Lasting, slices.Clip, Recover. -/
namespace Go.Proofs.Ytnfeibbnjdegfaa
open Go Go.RowKit
set_option linter.unusedVariables false
set_option maxRecDepth 4000
theorem go_Wal4 {A B : Prop} (h : Held B → A := by
  intro hEnd
  repeat (first | refine OW_nilCheck rfl ?_ | refine OW_fieldB fldo_V0 rfl ?_ | refine OW_eqlNil und_pV rfl ?_ | refine OW_eqlNil und_pD rfl ?_ | refine OW_moveV (.int _ _) rfl ?_ | refine OW_moveV (.slice _ _ _) rfl ?_ | refine OW_moveV (.bool _) rfl ?_ | refine OW_moveV (.pointer _) rfl ?_ | refine OW_moveV (.string _) rfl ?_ | refine OW_moveV (.agg _) rfl ?_ | refine OW_moveV (.tuple _) rfl ?_ | refine OW_nil ?_ | refine thenE_normal ?_ | refine CW_seq ?_ | refine CW_region (by kernel_rfl) ?_ | refine OW_assignV (.int _ _) rfl ?_ | refine OW_assignV (.slice _ _ _) rfl ?_ | refine OW_assignV (.bool _) rfl ?_ | refine OW_assignV (.pointer _) rfl ?_ | refine OW_assignV (.string _) rfl ?_ | refine OW_assignV (.agg _) rfl ?_ | refine OW_assignV (.tuple _) rfl ?_ | refine OW_addI rfl rfl (by omega) ?_ | refine OW_subI rfl rfl (by omega) ?_ | refine OW_mulI rfl rfl (by omega) ?_ | refine OW_lss rfl rfl ?_ | refine OW_extract rfl rfl ?_ | refine OW_gtr rfl rfl ?_ | refine OW_leq rfl rfl ?_ | refine OW_geq rfl rfl ?_ | refine OW_eql rfl rfl ?_ | refine OW_neq rfl rfl ?_ | refine OW_not rfl ?_ | refine OW_pickT rfl _ rfl ?_ | refine OW_pickF rfl (.bool _) rfl ?_ | refine OW_pickB rfl rfl rfl ?_ | refine OW_move ?_ | refine OW_assign ?_ | refine OW_pass rfl ?_ | refine OW_take rfl ?_ | refine OW_lenS (by first | with_reducible exact und_bytes | with_reducible exact und_bytess) rfl ?_ | refine OW_convInt (by first | with_reducible exact und_u8 | with_reducible exact und_u64 | with_reducible exact und_int | with_reducible exact und_u32) (by first | with_reducible exact und_u8 | with_reducible exact und_u64 | with_reducible exact und_int | with_reducible exact und_u32) rfl ?_ | refine OW_add rfl rfl ?_ | refine OW_sub rfl rfl ?_ | refine OW_mul rfl rfl ?_ | refine OW_min2 rfl rfl ?_ | refine OW_max2 rfl rfl ?_ | refine OW_neg rfl ?_ | refine CW_block ?_ | refine CW_condT rfl ?_ | refine CW_condF rfl ?_ | refine CW_exit ?_ | refine CW_ret ?_ | refine CW_skip ?_ | refine LW_seq ?_ | refine LW_regC ?_ | refine LW_condC ?_ | refine LW_regF ?_ | refine LW_condF ?_ | refine FW_seq ?_ | refine FW_region (by kernel_rfl) ?_ | refine FW_block ?_ | refine FW_condT rfl ?_ | refine FW_condF rfl ?_ | refine FW_exit ?_ | refine FW_ret ?_ | refine FW_skip ?_ | refine LW_ret ?_ | refine LW_skip ?_ | refine thenE_exit ?_ | refine thenE_ret ?_ | refine inBlockE_normal ?_ | refine inBlockE_same ?_ | refine inBlockE_ret ?_ | refine inBlockE_ne (by rfl) ?_ | refine OW_eqlB (by with_reducible exact und_bool) rfl rfl ?_ | refine OW_neqB (by with_reducible exact und_bool) rfl rfl ?_ | refine OW_idxS (by with_reducible exact und_bytes) one_u8 rfl rfl _ rfl (by omega) ?_ | refine OW_idxS (by with_reducible exact und_bytess) one_bytes rfl rfl _ rfl (by omega) ?_ | refine OW_load1 (by first | with_reducible exact one_u8 | with_reducible exact one_bytes) rfl _ (by assumption) ?_ | refine OW_load1 d_ptr rfl _ (by assumption) ?_ | refine OW_load1 v_ptr rfl _ (by assumption) ?_)
  exact hEnd.out) (k : B) : A := h ⟨k⟩
/-- The bytes begin with these frames. -/
def PreL (b : List UInt8) (ps : List (List UInt8)) : Prop := (framesB ps).length ≤ b.length ∧ b.take (framesB ps).length = framesB ps ∧ ∀ q ∈ ps, q.length ≤ 65536
theorem PreL.nil (b : List UInt8) : PreL b [] := ⟨by simp [framesB], by simp [framesB], by simp⟩
theorem PreL.next {b : List UInt8} {vs : List BV} {v : BV} (h : PreL b (vs.map pay)) (hn : nextL (b.drop (framesB (vs.map pay)).length) = some (pay v)) : PreL b ((vs ++ [v]).map pay) ∧ (framesB ((vs ++ [v]).map pay)).length = (framesB (vs.map pay)).length + ((pay v).length + 12) := by
  obtain ⟨k1, k2, k3, k4⟩ := framesB_le h.1 h.2.1 h.2.2 v rfl hn
  exact ⟨⟨k1, k2, k3⟩, k4⟩
theorem last_stop {b s : List UInt8} {ps : List (List UInt8)} {p : List UInt8} (hs : b.take s.length = s) (h : PreL b (ps ++ [p])) (h1 : (framesB ps).length ≤ s.length) (h2 : s.length < (framesB (ps ++ [p])).length) : IsAll s ps := by
  obtain ⟨q1, q2, q3⟩ := h
  have hp : p.length ≤ 65536 := q3 p (by simp)
  rw [framesB_snoc] at q1 q2 h2
  rw [List.length_append] at q1 h2
  have hb : b = (framesB ps ++ frameB p) ++ b.drop (framesB ps ++ frameB p).length := by
    have := (List.take_append_drop (framesB ps ++ frameB p).length b).symm
    rwa [q2] at this
  have hsb : s = framesB ps ++ (frameB p ++ b.drop (framesB ps ++ frameB p).length).take (s.length - (framesB ps).length) := by
    rw [← hs]
    conv => lhs; rw [hb]
    rw [List.length_take, List.append_assoc, List.take_append, List.take_of_length_le h1, Nat.min_eq_left (by omega)]
  rw [hsb]
  refine isAll_frames (fun q hq => q3 q (by simp [hq])) ?_
  refine nextL_cut hp ?_
  rw [frameB_length] at h2
  omega
theorem last_done {b s : List UInt8} {ps : List (List UInt8)} (hs : b.take s.length = s) (h : IsAll b ps) (h1 : (framesB ps).length ≤ s.length) : IsAll s ps := by
  obtain ⟨q1, q2, q3, q4⟩ := h
  have hb : b = framesB ps ++ b.drop (framesB ps).length := by
    have := (List.take_append_drop (framesB ps).length b).symm
    rwa [q2] at this
  have hsb : s = framesB ps ++ (b.drop (framesB ps).length).take (s.length - (framesB ps).length) := by
    rw [← hs]
    conv => lhs; rw [hb]
    have hl : s.length ≤ b.length := by have := congrArg List.length hs; rw [List.length_take] at this; omega
    rw [List.length_take, List.take_append, List.take_of_length_le h1, Nat.min_eq_left (by omega)]
  rw [hsb]
  refine isAll_frames q4 ?_
  cases hn : nextL ((b.drop (framesB ps).length).take (s.length - (framesB ps).length)) with
  | none => rfl
  | some p =>
    exfalso
    obtain ⟨p1, p2, p3⟩ := nextL_some hn
    have : b.drop (framesB ps).length = frameB p ++ (b.drop (framesB ps).length).drop (p.length + 12) := by
      have h3 := (List.take_append_drop (p.length + 12) (b.drop (framesB ps).length)).symm
      rw [List.take_take, Nat.min_eq_left (by rw [List.length_take] at p2; omega)] at p3
      rwa [p3] at h3
    rw [this, nextL_frame p _ p1] at q3
    cases q3
theorem all_take (d : DS) : d.all.take d.s.length = d.s := by unfold DS.all; simp
/-- What Lasting tells. -/
def LastP (w : World) (s : List UInt8) : Ending → World → Prop := fun en w' => ∃ ps, IsAll s ps ∧ en = .returned (.int .i64 ps.length) ∧ Ext w w'
/-- What a loop over records keeps, that counts them in a cell. -/
structure Cnt (w : World) (g1 g3 v n : Nat) (W : World) : Prop where
  n_ : Blk W g3 3 #[.int .i64 n]
  v_ : Blk W g1 27 #[.pointer (some ⟨v, 0, none⟩)]
  ext : Ext w W
theorem Cnt.keeps {w W W' : World} {g1 g3 v n : Nat} {X : Nat → Prop} (h : Cnt w g1 g3 v n W) (hk : Keeps W W' X) (h1 : ¬ X g1) (h3 : ¬ X g3) (hX : ∀ k, X k → w.heap.size ≤ k) : Cnt w g1 g3 v n W' := ⟨h.n_.keeps hk h3, h.v_.keeps hk h1, hk.ext h.ext hX⟩
set_option maxHeartbeats 8000000 in
theorem vLasting_any (w : World) (v g : Nat) (S : Nat → Prop) (d : DS) (h : DR w g S d) (hv : VB w v g) (hl : d.all.length ≤ 100000) (hn : d.ws.length ≤ 1000000) :
    Calls Try.prog 21 #[.pointer (some ⟨v, 0, none⟩)] w (LastP w d.s) := by
  have hst := all_take d
  have hsl : d.s.length ≤ d.all.length := by unfold DS.all; simp
  refine calls_of_LW Try.func21 rfl (by simp [Try.ntmps21]) ?_
  refine go_Wal4 (k := ?_)
  refine OW_box _ rfl ?_
  intro w1 g1 hb1 hg1 hl1 hx1
  have hb1 : Blk w1 g1 27 #[.pointer (some ⟨v, 0, none⟩)] := hb1
  refine go_Wal4 (k := ?_)
  refine OW_alloc1 (.int .i64 0) (fun w => by kernel_rfl) ?_
  intro w2 g3 hb3 hg3 hl3 hx2
  refine go_Wal4 (k := ?_)
  refine OW_storeB s_int rfl (.int .i64 0) rfl rfl hb3 Nat.one_pos ?_
  intro w2' hb3' hg3'
  have hb3' : Blk w2' g3 3 #[.int .i64 0] := hb3'
  have hx02' : Ext w w2' := (Keeps.of_only (S := (· = g3)) hg3' rfl).ext (hx1.trans' hx2) (fun k hk => by have hk : k = g3 := hk; have := hx1.size; omega)
  have hb1' := (hb1.ext hx2).keeps (Keeps.of_only (S := (· = g3)) hg3' rfl) (by omega)
  refine go_Wal4 (k := ?_)
  refine OW_isLoad ?_
  refine OW_loadBk v_ptr rfl hb1' (.pointer (some ⟨v, 0, none⟩)) rfl ?_
  refine go_Wal4 (k := ?_)
  refine OW_callC Try.func47 (by kernel_rfl) rfl (records_any w2' (.pointer (some ⟨v, 0, none⟩)) rfl) rfl ?_
  rintro en w3 ⟨gB, rfl, hbB, hgB, hx3⟩
  refine ⟨_, rfl, ?_⟩
  have hx03 := hx02'.trans' hx3
  have hb13 := hb1'.ext hx3
  have hb33 := hb3'.ext hx3
  have s1 := hx1.size
  have s2 := hx2.size
  have s2' := hg3'.size
  have s3 := hx3.size
  have hlB := hbB.lt
  clear hb1 hb3 hb1' hb3'
  refine go_Wal4 (k := ?_)
  refine LW_forget [1, 3, 6] ?_
  intro e5 h5
  have q1 : e5 1 = .pointer (some ⟨g1, 0, none⟩) := h5 1 (by decide)
  have q3 : e5 3 = .pointer (some ⟨g3, 0, none⟩) := h5 3 (by decide)
  have q6 : e5 6 = .func (.func 71) #[] #[.pointer (some ⟨gB, 0, none⟩)] := h5 6 (by decide)
  clear h5
  rw [upd_self q1, upd_self q3, upd_self q6]
  have hit := records_iter d w.heap.size gB v g S hl hn
  generalize hb : d.all = b at *
  refine LW_range3 (ps := [7, 8]) hit Try.func71 (by kernel_rfl) rfl rfl (fun x => rfl) (by decide) (fun k => k = g3) (fun k hk => ?_) (fun k hk => by omega) (fun W hW => ⟨by have := hW.size; omega, hbB.ext hW, (hv.ext hx03).ext hW, (h.ext hx03).ext hW⟩)
    (fun S xs W => Cnt w g1 g3 v xs.length W ∧ S g3 ∧ ¬ S g1 ∧ (∀ k, S k → k < W.heap.size) ∧ PreL b ((xs.map Prod.snd).map pay) ∧ (framesB ((xs.map Prod.snd).map pay)).length ≤ d.s.length)
    (fun c S xs W => c = .exit 0 ∧ ∃ pre x, xs = pre ++ [x] ∧ Cnt w g1 g3 v pre.length W ∧ S g3 ∧ ¬ S g1 ∧ IsAll d.s ((pre.map Prod.snd).map pay)) (fun S s W h => h.2.2.2.1) ?_ ?_ ?_
    (fun x => upd (upd (upd (upd (upd (upd e5 6 (.func (.func 71) #[] #[.pointer (some ⟨gB, 0, none⟩)])) 3 (.pointer (some ⟨g3, 0, none⟩))) 1 (.pointer (some ⟨g1, 0, none⟩))) 7 (.int .i64 x.1)) 8 (sv x.2)) 4 (.int .i64 x.1)) ?_ ?_ ?_ ?_
  · have hk : k = gB := hk
    subst hk; exact ⟨hlB, by omega⟩
  · rintro S xs W W' ⟨hc, h3, h1, hb, hp, hf⟩ hn hk
    exact ⟨hc.keeps hk (by omega) (by omega) (fun k hk2 => by omega), h3, h1, fun k hk2 => Nat.lt_of_lt_of_le (hb k hk2) hk.size, hp, hf⟩
  · rintro c S xs W W' ⟨hc0, pre, x, hx, hc, h3, h1, ha⟩ hn hk
    exact ⟨hc0, pre, x, hx, hc.keeps hk (by omega) (by omega) (fun k hk2 => by omega), h3, h1, ha⟩
  · exact ⟨⟨hb33, hb13, hx03⟩, rfl, by omega, fun k hk => by have hk : k = g3 := hk; omega, PreL.nil b, by simp [framesB]⟩
  · intro x l2 W
    unfold binds binds binds
    refine go_Wal4 (k := ?_)
    exact ⟨rfl, rfl, rfl⟩
  · rintro l2 S pre ⟨at_, Ax, cx, lx⟩ W hW ⟨hc, h3, h1, hbS, hp, hf⟩ hn ⟨k1, k2, k3, k4⟩ hG
    have hsx : sv (Ax, cx, lx) = .slice Ax lx.length cx := rfl
    rw [hsx]
    obtain ⟨hp2, hfl⟩ := hp.next (v := (Ax, cx, lx)) k2
    rw [List.map_append] at k3
    have k3 : at_ = (framesB ((pre.map Prod.snd ++ [(Ax, cx, lx)]).map pay)).length := k3
    have hcnt : 12 * pre.length ≤ b.length := by
      have := frames12 ((pre.map Prod.snd).map pay)
      simp only [List.length_map] at this
      have := hp.1
      omega
    refine go_Wal4 (k := ?_)
    refine OW_isLoad ?_
    refine OW_loadBk v_ptr rfl hc.v_ (.pointer (some ⟨v, 0, none⟩)) rfl ?_
    refine go_Wal4 (k := ?_)
    refine OW_isLoad ?_
    refine OW_loadBk d_ptr rfl (hv.ext hc.ext) (.pointer (some ⟨g, 0, none⟩)) rfl ?_
    refine go_Wal4 (k := ?_)
    refine OW_callV Try.func29 (by kernel_rfl) rfl (dSynced_any W g _ d (h.ext hc.ext)) rfl ?_
    intro w4 hx4
    have hc4 := hc.keeps (Keeps.of_ext hx4 (fun _ => False)) (by simp) (by simp) (fun k hk => hk.elim)
    have s4 := hx4.size
    refine go_Wal4 (k := ?_)
    refine FW_cond _ rfl (fun hh => ?_) (fun hh => ?_)
    · have hgt := of_decide_eq_true hh
      clear hh
      have hstp : IsAll d.s ((pre.map Prod.snd).map pay) := by
        rw [List.map_append] at hp2
        refine last_stop (p := lx) hst hp2 hf ?_
        rw [show (framesB ((pre.map Prod.snd).map pay ++ [lx])).length = at_ by rw [k3, List.map_append]; rfl]
        omega
      refine go_Wal4 (k := ?_)
      exact ⟨Keeps.of_ext hx4 _, S, fun k hk => .inl hk, rfl, pre, (at_, (Ax, cx, lx)), rfl, hc4, h3, h1, hstp⟩
    · have hle := of_decide_eq_false hh
      clear hh
      refine go_Wal4 (k := ?_)
      refine OW_isLoad ?_
      refine OW_loadBk s_int rfl hc4.n_ (.int .i64 pre.length) rfl ?_
      refine go_Wal4 (k := ?_)
      refine OW_storeB s_int rfl (.int .i64 ((pre.length : Int) + 1)) rfl rfl hc4.n_ Nat.one_pos ?_
      intro w5 hb5 hg5
      have hk5 : Keeps w4 w5 (· = g3) := Keeps.of_only hg5 rfl
      have s5 := hk5.size
      refine go_Wal4 (k := ?_)
      refine ⟨((Keeps.of_ext hx4 _).trans' (hk5.mono fun k _ hk => by have hk : k = g3 := hk; rw [hk]; exact h3)).mono fun k _ hk => .inl hk, S, fun k hk => .inl hk, ⟨?_, hc4.v_.keeps hk5 (by omega), hk5.ext hc4.ext (fun k hk => by have hk : k = g3 := hk; omega)⟩, h3, h1, fun k hk => by have := hbS k hk; omega, ?_, ?_⟩
      · rw [List.length_append]; exact hb5
      · rw [List.map_append]; exact hp2
      · rw [List.map_append]
        show (framesB ((pre.map Prod.snd ++ [(Ax, cx, lx)]).map pay)).length ≤ d.s.length
        omega
  · rintro S xs W hS ⟨hc, h3, h1, hbS, hp, hf⟩ hn hD
    refine go_Wal4 (k := ?_)
    refine OW_isLoad ?_
    refine OW_loadBk s_int rfl hc.n_ (.int .i64 xs.length) rfl ?_
    refine go_Wal4 (k := ?_)
    have hkD : Keeps W (W.putObj w3.heap.size (.deferred none)) (· = w3.heap.size) := Keeps.put _ _ _
    refine leaveM_of hD (bodyE_ret1 rfl (.int .i64 xs.length) rfl ⟨(xs.map Prod.snd).map pay, last_done hst hS hf, by simp, hkD.ext hc.ext (fun k hk => by omega)⟩)
  · rintro c S xs W _ ⟨hc0, pre, x, hx, hc, h3, h1, ha⟩ hn hD
    refine ⟨hc0, ?_⟩
    refine go_Wal4 (k := ?_)
    refine OW_isLoad ?_
    refine OW_loadBk s_int rfl hc.n_ (.int .i64 pre.length) rfl ?_
    refine go_Wal4 (k := ?_)
    have hkD : Keeps W (W.putObj w3.heap.size (.deferred none)) (· = w3.heap.size) := Keeps.put _ _ _
    refine leaveM_of hD (bodyE_ret1 rfl (.int .i64 pre.length) rfl ⟨(pre.map Prod.snd).map pay, ha, by simp, hkD.ext hc.ext (fun k hk => by omega)⟩)
end Go.Proofs.Ytnfeibbnjdegfaa
