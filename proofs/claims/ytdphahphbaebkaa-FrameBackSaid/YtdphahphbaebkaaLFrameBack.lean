/- FrameBack: the frames of payloads, one behind the other, are all of them, in order; cut off anywhere, they are those that are whole. No condition. -/
import Derived.Test.YtdphahphbaebkaaFrm4
import Derived.Test.YtdphahphbaebkaaFrame
namespace Go.Proofs.Ytdphahphbaebkaa.lawFrameBack
open Go.ChangeShapes Go.WideShapes Go.ChangeAt Go.RowKit
set_option linter.unusedVariables false
set_option maxRecDepth 4000
theorem go_LFrameBack {A B : Prop} (h : Held B → A := by
  intro hEnd
  repeat (first | refine OW_moveV (.int _ _) rfl ?_ | refine OW_moveV (.slice _ _ _) rfl ?_ | refine OW_moveV (.bool _) rfl ?_ | refine OW_moveV (.pointer _) rfl ?_ | refine OW_moveV (.string _) rfl ?_ | refine OW_moveV (.agg _) rfl ?_ | refine OW_moveV (.tuple _) rfl ?_ | refine OW_nil ?_ | refine thenE_normal ?_ | refine CW_seq ?_ | refine CW_region (by kernel_rfl) ?_ | refine OW_assignV (.int _ _) rfl ?_ | refine OW_assignV (.slice _ _ _) rfl ?_ | refine OW_assignV (.bool _) rfl ?_ | refine OW_assignV (.pointer _) rfl ?_ | refine OW_assignV (.string _) rfl ?_ | refine OW_assignV (.agg _) rfl ?_ | refine OW_assignV (.tuple _) rfl ?_ | refine OW_addI rfl rfl (by omega) ?_ | refine OW_subI rfl rfl (by omega) ?_ | refine OW_mulI rfl rfl (by omega) ?_ | refine OW_lss rfl rfl ?_ | refine OW_extract rfl rfl ?_ | refine OW_gtr rfl rfl ?_ | refine OW_leq rfl rfl ?_ | refine OW_geq rfl rfl ?_ | refine OW_eql rfl rfl ?_ | refine OW_neq rfl rfl ?_ | refine OW_not rfl ?_ | refine OW_pickT rfl _ rfl ?_ | refine OW_pickF rfl (.bool _) rfl ?_ | refine OW_pickB rfl rfl rfl ?_ | refine OW_move ?_ | refine OW_assign ?_ | refine OW_pass rfl ?_ | refine OW_take rfl ?_ | refine OW_lenS (by first | with_reducible exact und_bytes | with_reducible exact und_bytess) rfl ?_ | refine OW_convInt (by first | with_reducible exact und_u8 | with_reducible exact und_u64 | with_reducible exact und_int | with_reducible exact und_u32) (by first | with_reducible exact und_u8 | with_reducible exact und_u64 | with_reducible exact und_int | with_reducible exact und_u32) rfl ?_ | refine OW_add rfl rfl ?_ | refine OW_sub rfl rfl ?_ | refine OW_mul rfl rfl ?_ | refine OW_min2 rfl rfl ?_ | refine OW_max2 rfl rfl ?_ | refine OW_neg rfl ?_ | refine CW_block ?_ | refine CW_condT rfl ?_ | refine CW_condF rfl ?_ | refine CW_exit ?_ | refine CW_ret ?_ | refine CW_skip ?_ | refine LW_seq ?_ | refine LW_regC ?_ | refine LW_condC ?_ | refine LW_regF ?_ | refine LW_condF ?_ | refine FW_seq ?_ | refine FW_region (by kernel_rfl) ?_ | refine FW_block ?_ | refine FW_condT rfl ?_ | refine FW_condF rfl ?_ | refine FW_exit ?_ | refine FW_ret ?_ | refine FW_skip ?_ | refine LW_ret ?_ | refine LW_skip ?_ | refine thenE_exit ?_ | refine thenE_ret ?_ | refine inBlockE_normal ?_ | refine inBlockE_same ?_ | refine inBlockE_ret ?_ | refine inBlockE_ne (by rfl) ?_ | refine OW_eqlB (by with_reducible exact und_bool) rfl rfl ?_ | refine OW_neqB (by with_reducible exact und_bool) rfl rfl ?_ | refine OW_idxS (by with_reducible exact und_bytes) one_u8 rfl rfl _ rfl (by omega) ?_ | refine OW_idxS (by with_reducible exact und_bytess) one_bytes rfl rfl _ rfl (by omega) ?_ | refine OW_load1 (by first | with_reducible exact one_u8 | with_reducible exact one_bytes) rfl _ (by assumption) ?_ | refine OW_lenS und_ints rfl ?_ | refine OW_idxS und_bytess one_bytes rfl rfl _ rfl (by omega) ?_ | refine OW_idxS und_ints s_int rfl rfl _ rfl (by omega) ?_ | refine OW_load1 s_int rfl _ (by assumption) ?_)
  exact hEnd.out) (k : B) : A := h ⟨k⟩
theorem oy_LFrameBack {A B : Prop} (h : Held B → A := by
  intro hEnd
  repeat (first
    | refine OY_done ?_
    | (apply OY_p _ rfl
       · intro wd
         (first | refine OW_moveV (.int _ _) rfl ?_ | refine OW_moveV (.slice _ _ _) rfl ?_ | refine OW_moveV (.bool _) rfl ?_ | refine OW_moveV (.pointer _) rfl ?_ | refine OW_moveV (.string _) rfl ?_ | refine OW_moveV (.agg _) rfl ?_ | refine OW_moveV (.tuple _) rfl ?_ | refine OW_nil ?_ | refine thenE_normal ?_ | refine CW_seq ?_ | refine CW_region (by kernel_rfl) ?_ | refine OW_assignV (.int _ _) rfl ?_ | refine OW_assignV (.slice _ _ _) rfl ?_ | refine OW_assignV (.bool _) rfl ?_ | refine OW_assignV (.pointer _) rfl ?_ | refine OW_assignV (.string _) rfl ?_ | refine OW_assignV (.agg _) rfl ?_ | refine OW_assignV (.tuple _) rfl ?_ | refine OW_addI rfl rfl (by omega) ?_ | refine OW_subI rfl rfl (by omega) ?_ | refine OW_mulI rfl rfl (by omega) ?_ | refine OW_lss rfl rfl ?_ | refine OW_extract rfl rfl ?_ | refine OW_gtr rfl rfl ?_ | refine OW_leq rfl rfl ?_ | refine OW_geq rfl rfl ?_ | refine OW_eql rfl rfl ?_ | refine OW_neq rfl rfl ?_ | refine OW_not rfl ?_ | refine OW_pickT rfl _ rfl ?_ | refine OW_pickF rfl (.bool _) rfl ?_ | refine OW_pickB rfl rfl rfl ?_ | refine OW_move ?_ | refine OW_assign ?_ | refine OW_pass rfl ?_ | refine OW_take rfl ?_ | refine OW_lenS (by first | with_reducible exact und_bytes | with_reducible exact und_bytess) rfl ?_ | refine OW_convInt (by first | with_reducible exact und_u8 | with_reducible exact und_u64 | with_reducible exact und_int | with_reducible exact und_u32) (by first | with_reducible exact und_u8 | with_reducible exact und_u64 | with_reducible exact und_int | with_reducible exact und_u32) rfl ?_ | refine OW_add rfl rfl ?_ | refine OW_sub rfl rfl ?_ | refine OW_mul rfl rfl ?_ | refine OW_min2 rfl rfl ?_ | refine OW_max2 rfl rfl ?_ | refine OW_neg rfl ?_ | refine CW_block ?_ | refine CW_condT rfl ?_ | refine CW_condF rfl ?_ | refine CW_exit ?_ | refine CW_ret ?_ | refine CW_skip ?_ | refine LW_seq ?_ | refine LW_regC ?_ | refine LW_condC ?_ | refine LW_regF ?_ | refine LW_condF ?_ | refine FW_seq ?_ | refine FW_region (by kernel_rfl) ?_ | refine FW_block ?_ | refine FW_condT rfl ?_ | refine FW_condF rfl ?_ | refine FW_exit ?_ | refine FW_ret ?_ | refine FW_skip ?_ | refine LW_ret ?_ | refine LW_skip ?_ | refine thenE_exit ?_ | refine thenE_ret ?_ | refine inBlockE_normal ?_ | refine inBlockE_same ?_ | refine inBlockE_ret ?_ | refine inBlockE_ne (by rfl) ?_ | refine OW_eqlB (by with_reducible exact und_bool) rfl rfl ?_ | refine OW_neqB (by with_reducible exact und_bool) rfl rfl ?_ | refine OW_idxS (by with_reducible exact und_bytes) one_u8 rfl rfl _ rfl (by omega) ?_ | refine OW_idxS (by with_reducible exact und_bytess) one_bytes rfl rfl _ rfl (by omega) ?_ | refine OW_load1 (by first | with_reducible exact one_u8 | with_reducible exact one_bytes) rfl _ (by assumption) ?_ | refine OW_lenS und_ints rfl ?_ | refine OW_idxS und_bytess one_bytes rfl rfl _ rfl (by omega) ?_ | refine OW_idxS und_ints s_int rfl rfl _ rfl (by omega) ?_ | refine OW_load1 s_int rfl _ (by assumption) ?_)
         refine OW_nil ?_
         exact stay_mk _ _ _ _)
    | (apply OY_q _ rfl
       · intro wd hwd
         (first | refine OW_moveV (.int _ _) rfl ?_ | refine OW_moveV (.slice _ _ _) rfl ?_ | refine OW_moveV (.bool _) rfl ?_ | refine OW_moveV (.pointer _) rfl ?_ | refine OW_moveV (.string _) rfl ?_ | refine OW_moveV (.agg _) rfl ?_ | refine OW_moveV (.tuple _) rfl ?_ | refine OW_nil ?_ | refine thenE_normal ?_ | refine CW_seq ?_ | refine CW_region (by kernel_rfl) ?_ | refine OW_assignV (.int _ _) rfl ?_ | refine OW_assignV (.slice _ _ _) rfl ?_ | refine OW_assignV (.bool _) rfl ?_ | refine OW_assignV (.pointer _) rfl ?_ | refine OW_assignV (.string _) rfl ?_ | refine OW_assignV (.agg _) rfl ?_ | refine OW_assignV (.tuple _) rfl ?_ | refine OW_addI rfl rfl (by omega) ?_ | refine OW_subI rfl rfl (by omega) ?_ | refine OW_mulI rfl rfl (by omega) ?_ | refine OW_lss rfl rfl ?_ | refine OW_extract rfl rfl ?_ | refine OW_gtr rfl rfl ?_ | refine OW_leq rfl rfl ?_ | refine OW_geq rfl rfl ?_ | refine OW_eql rfl rfl ?_ | refine OW_neq rfl rfl ?_ | refine OW_not rfl ?_ | refine OW_pickT rfl _ rfl ?_ | refine OW_pickF rfl (.bool _) rfl ?_ | refine OW_pickB rfl rfl rfl ?_ | refine OW_move ?_ | refine OW_assign ?_ | refine OW_pass rfl ?_ | refine OW_take rfl ?_ | refine OW_lenS (by first | with_reducible exact und_bytes | with_reducible exact und_bytess) rfl ?_ | refine OW_convInt (by first | with_reducible exact und_u8 | with_reducible exact und_u64 | with_reducible exact und_int | with_reducible exact und_u32) (by first | with_reducible exact und_u8 | with_reducible exact und_u64 | with_reducible exact und_int | with_reducible exact und_u32) rfl ?_ | refine OW_add rfl rfl ?_ | refine OW_sub rfl rfl ?_ | refine OW_mul rfl rfl ?_ | refine OW_min2 rfl rfl ?_ | refine OW_max2 rfl rfl ?_ | refine OW_neg rfl ?_ | refine CW_block ?_ | refine CW_condT rfl ?_ | refine CW_condF rfl ?_ | refine CW_exit ?_ | refine CW_ret ?_ | refine CW_skip ?_ | refine LW_seq ?_ | refine LW_regC ?_ | refine LW_condC ?_ | refine LW_regF ?_ | refine LW_condF ?_ | refine FW_seq ?_ | refine FW_region (by kernel_rfl) ?_ | refine FW_block ?_ | refine FW_condT rfl ?_ | refine FW_condF rfl ?_ | refine FW_exit ?_ | refine FW_ret ?_ | refine FW_skip ?_ | refine LW_ret ?_ | refine LW_skip ?_ | refine thenE_exit ?_ | refine thenE_ret ?_ | refine inBlockE_normal ?_ | refine inBlockE_same ?_ | refine inBlockE_ret ?_ | refine inBlockE_ne (by rfl) ?_ | refine OW_eqlB (by with_reducible exact und_bool) rfl rfl ?_ | refine OW_neqB (by with_reducible exact und_bool) rfl rfl ?_ | refine OW_idxS (by with_reducible exact und_bytes) one_u8 rfl rfl _ rfl (by omega) ?_ | refine OW_idxS (by with_reducible exact und_bytess) one_bytes rfl rfl _ rfl (by omega) ?_ | refine OW_load1 (by first | with_reducible exact one_u8 | with_reducible exact one_bytes) rfl _ (by assumption) ?_ | refine OW_lenS und_ints rfl ?_ | refine OW_idxS und_bytess one_bytes rfl rfl _ rfl (by omega) ?_ | refine OW_idxS und_ints s_int rfl rfl _ rfl (by omega) ?_ | refine OW_load1 s_int rfl _ (by assumption) ?_ | (refine OW_isLoad ?_; refine OW_loadBk (by first | with_reducible exact one_u8 | with_reducible exact one_bytes | with_reducible exact one_bool | with_reducible exact one_int | with_reducible exact one_errno | with_reducible exact one_u32 | with_reducible exact one_u64 | with_reducible exact one_string) rfl (by apply_assumption; assumption) _ (by first | assumption | rfl) ?_) | refine OW_load1 (by first | with_reducible exact one_u8 | with_reducible exact one_bytes | with_reducible exact one_bool | with_reducible exact one_int | with_reducible exact one_errno | with_reducible exact one_u32 | with_reducible exact one_u64 | with_reducible exact one_string) rfl _ (by apply_assumption; assumption) ?_)
         refine OW_nil ?_
         exact stay_mk _ _ _ _)
    | refine OY_ppass rfl rfl ?_
    | refine OY_qpass rfl rfl ?_
    | (apply OY_ptake _ rfl rfl
       · intro wd
         (first | refine OW_moveV (.int _ _) rfl ?_ | refine OW_moveV (.slice _ _ _) rfl ?_ | refine OW_moveV (.bool _) rfl ?_ | refine OW_moveV (.pointer _) rfl ?_ | refine OW_moveV (.string _) rfl ?_ | refine OW_moveV (.agg _) rfl ?_ | refine OW_moveV (.tuple _) rfl ?_ | refine OW_nil ?_ | refine thenE_normal ?_ | refine CW_seq ?_ | refine CW_region (by kernel_rfl) ?_ | refine OW_assignV (.int _ _) rfl ?_ | refine OW_assignV (.slice _ _ _) rfl ?_ | refine OW_assignV (.bool _) rfl ?_ | refine OW_assignV (.pointer _) rfl ?_ | refine OW_assignV (.string _) rfl ?_ | refine OW_assignV (.agg _) rfl ?_ | refine OW_assignV (.tuple _) rfl ?_ | refine OW_addI rfl rfl (by omega) ?_ | refine OW_subI rfl rfl (by omega) ?_ | refine OW_mulI rfl rfl (by omega) ?_ | refine OW_lss rfl rfl ?_ | refine OW_extract rfl rfl ?_ | refine OW_gtr rfl rfl ?_ | refine OW_leq rfl rfl ?_ | refine OW_geq rfl rfl ?_ | refine OW_eql rfl rfl ?_ | refine OW_neq rfl rfl ?_ | refine OW_not rfl ?_ | refine OW_pickT rfl _ rfl ?_ | refine OW_pickF rfl (.bool _) rfl ?_ | refine OW_pickB rfl rfl rfl ?_ | refine OW_move ?_ | refine OW_assign ?_ | refine OW_pass rfl ?_ | refine OW_take rfl ?_ | refine OW_lenS (by first | with_reducible exact und_bytes | with_reducible exact und_bytess) rfl ?_ | refine OW_convInt (by first | with_reducible exact und_u8 | with_reducible exact und_u64 | with_reducible exact und_int | with_reducible exact und_u32) (by first | with_reducible exact und_u8 | with_reducible exact und_u64 | with_reducible exact und_int | with_reducible exact und_u32) rfl ?_ | refine OW_add rfl rfl ?_ | refine OW_sub rfl rfl ?_ | refine OW_mul rfl rfl ?_ | refine OW_min2 rfl rfl ?_ | refine OW_max2 rfl rfl ?_ | refine OW_neg rfl ?_ | refine CW_block ?_ | refine CW_condT rfl ?_ | refine CW_condF rfl ?_ | refine CW_exit ?_ | refine CW_ret ?_ | refine CW_skip ?_ | refine LW_seq ?_ | refine LW_regC ?_ | refine LW_condC ?_ | refine LW_regF ?_ | refine LW_condF ?_ | refine FW_seq ?_ | refine FW_region (by kernel_rfl) ?_ | refine FW_block ?_ | refine FW_condT rfl ?_ | refine FW_condF rfl ?_ | refine FW_exit ?_ | refine FW_ret ?_ | refine FW_skip ?_ | refine LW_ret ?_ | refine LW_skip ?_ | refine thenE_exit ?_ | refine thenE_ret ?_ | refine inBlockE_normal ?_ | refine inBlockE_same ?_ | refine inBlockE_ret ?_ | refine inBlockE_ne (by rfl) ?_ | refine OW_eqlB (by with_reducible exact und_bool) rfl rfl ?_ | refine OW_neqB (by with_reducible exact und_bool) rfl rfl ?_ | refine OW_idxS (by with_reducible exact und_bytes) one_u8 rfl rfl _ rfl (by omega) ?_ | refine OW_idxS (by with_reducible exact und_bytess) one_bytes rfl rfl _ rfl (by omega) ?_ | refine OW_load1 (by first | with_reducible exact one_u8 | with_reducible exact one_bytes) rfl _ (by assumption) ?_ | refine OW_lenS und_ints rfl ?_ | refine OW_idxS und_bytess one_bytes rfl rfl _ rfl (by omega) ?_ | refine OW_idxS und_ints s_int rfl rfl _ rfl (by omega) ?_ | refine OW_load1 s_int rfl _ (by assumption) ?_)
         refine OW_nil ?_
         exact stay_mk _ _ _ _)
    | (apply OY_qtake _ rfl rfl
       · intro wd hwd
         (first | refine OW_moveV (.int _ _) rfl ?_ | refine OW_moveV (.slice _ _ _) rfl ?_ | refine OW_moveV (.bool _) rfl ?_ | refine OW_moveV (.pointer _) rfl ?_ | refine OW_moveV (.string _) rfl ?_ | refine OW_moveV (.agg _) rfl ?_ | refine OW_moveV (.tuple _) rfl ?_ | refine OW_nil ?_ | refine thenE_normal ?_ | refine CW_seq ?_ | refine CW_region (by kernel_rfl) ?_ | refine OW_assignV (.int _ _) rfl ?_ | refine OW_assignV (.slice _ _ _) rfl ?_ | refine OW_assignV (.bool _) rfl ?_ | refine OW_assignV (.pointer _) rfl ?_ | refine OW_assignV (.string _) rfl ?_ | refine OW_assignV (.agg _) rfl ?_ | refine OW_assignV (.tuple _) rfl ?_ | refine OW_addI rfl rfl (by omega) ?_ | refine OW_subI rfl rfl (by omega) ?_ | refine OW_mulI rfl rfl (by omega) ?_ | refine OW_lss rfl rfl ?_ | refine OW_extract rfl rfl ?_ | refine OW_gtr rfl rfl ?_ | refine OW_leq rfl rfl ?_ | refine OW_geq rfl rfl ?_ | refine OW_eql rfl rfl ?_ | refine OW_neq rfl rfl ?_ | refine OW_not rfl ?_ | refine OW_pickT rfl _ rfl ?_ | refine OW_pickF rfl (.bool _) rfl ?_ | refine OW_pickB rfl rfl rfl ?_ | refine OW_move ?_ | refine OW_assign ?_ | refine OW_pass rfl ?_ | refine OW_take rfl ?_ | refine OW_lenS (by first | with_reducible exact und_bytes | with_reducible exact und_bytess) rfl ?_ | refine OW_convInt (by first | with_reducible exact und_u8 | with_reducible exact und_u64 | with_reducible exact und_int | with_reducible exact und_u32) (by first | with_reducible exact und_u8 | with_reducible exact und_u64 | with_reducible exact und_int | with_reducible exact und_u32) rfl ?_ | refine OW_add rfl rfl ?_ | refine OW_sub rfl rfl ?_ | refine OW_mul rfl rfl ?_ | refine OW_min2 rfl rfl ?_ | refine OW_max2 rfl rfl ?_ | refine OW_neg rfl ?_ | refine CW_block ?_ | refine CW_condT rfl ?_ | refine CW_condF rfl ?_ | refine CW_exit ?_ | refine CW_ret ?_ | refine CW_skip ?_ | refine LW_seq ?_ | refine LW_regC ?_ | refine LW_condC ?_ | refine LW_regF ?_ | refine LW_condF ?_ | refine FW_seq ?_ | refine FW_region (by kernel_rfl) ?_ | refine FW_block ?_ | refine FW_condT rfl ?_ | refine FW_condF rfl ?_ | refine FW_exit ?_ | refine FW_ret ?_ | refine FW_skip ?_ | refine LW_ret ?_ | refine LW_skip ?_ | refine thenE_exit ?_ | refine thenE_ret ?_ | refine inBlockE_normal ?_ | refine inBlockE_same ?_ | refine inBlockE_ret ?_ | refine inBlockE_ne (by rfl) ?_ | refine OW_eqlB (by with_reducible exact und_bool) rfl rfl ?_ | refine OW_neqB (by with_reducible exact und_bool) rfl rfl ?_ | refine OW_idxS (by with_reducible exact und_bytes) one_u8 rfl rfl _ rfl (by omega) ?_ | refine OW_idxS (by with_reducible exact und_bytess) one_bytes rfl rfl _ rfl (by omega) ?_ | refine OW_load1 (by first | with_reducible exact one_u8 | with_reducible exact one_bytes) rfl _ (by assumption) ?_ | refine OW_lenS und_ints rfl ?_ | refine OW_idxS und_bytess one_bytes rfl rfl _ rfl (by omega) ?_ | refine OW_idxS und_ints s_int rfl rfl _ rfl (by omega) ?_ | refine OW_load1 s_int rfl _ (by assumption) ?_ | (refine OW_isLoad ?_; refine OW_loadBk (by first | with_reducible exact one_u8 | with_reducible exact one_bytes | with_reducible exact one_bool | with_reducible exact one_int | with_reducible exact one_errno | with_reducible exact one_u32 | with_reducible exact one_u64 | with_reducible exact one_string) rfl (by apply_assumption; assumption) _ (by first | assumption | rfl) ?_) | refine OW_load1 (by first | with_reducible exact one_u8 | with_reducible exact one_bytes | with_reducible exact one_bool | with_reducible exact one_int | with_reducible exact one_errno | with_reducible exact one_u32 | with_reducible exact one_u64 | with_reducible exact one_string) rfl _ (by apply_assumption; assumption) ?_)
         refine OW_nil ?_
         exact stay_mk _ _ _ _)
    | refine OY_a (actY_of rfl ?_)
    | refine OY_d (actY_of rfl ?_)
    | refine OY_a (actY_pass rfl rfl ?_)
    | refine OY_d (actY_pass rfl rfl ?_)
    | refine OY_a (actY_take rfl rfl ?_)
    | refine OY_d (actY_take rfl rfl ?_))
  exact hEnd.out) (k : B) : A := h ⟨k⟩
set_option maxHeartbeats 8000000 in
theorem walk (w : World) (v0 : Value) (l : List (List UInt8)) (h0 : kBss.R w [v0] l) (v1 : Value) (cut : Int) (h1 : kI.R w [v1] cut) : Calls Try.prog 7 #[v0, v1] w (RetV w (.bool true)) := by
  obtain ⟨A, c, hv0, hc, hcm, hs⟩ := h0
  obtain ⟨hv1, hi⟩ := h1
  injection hv0 with hv0
  injection hv1 with hv1
  subst hv0; subst hv1
  have hsm := slr_small hs
  obtain ⟨vs, rfl, hA⟩ := bvs_of hs
  clear hs
  rw [List.length_map] at hc ⊢
  have hsv : ∀ v ∈ vs, v.2.2.length ≤ 140737488351232 := fun v hv => hsm _ (List.mem_map.2 ⟨v, hv, rfl⟩)
  clear hsm
  refine calls_of_CW Try.func7 rfl (by simp [Try.ntmps7]) ?_
  rw [Try.ntmps7]
  refine go_LFrameBack (k := ?_)
  refine OW_callV Try.func18 (by kernel_rfl) rfl (awake5_any w) rfl ?_
  intro w1 hx1
  refine go_LFrameBack (k := ?_)
  refine OW_callV Try.func19 (by kernel_rfl) rfl (long5_any w1 A c vs (hA.ext hx1) (by omega) hsv) rfl ?_
  intro w2 hx2
  refine go_LFrameBack (k := ?_)
  refine CW_cond _ rfl (fun h => ?_) (fun h => ?_)
  · refine go_LFrameBack (k := ?_)
    exact bodyE_ret1 rfl (.bool true) rfl ⟨rfl, hx1.trans' hx2⟩
  have hw : worth 20 vs ≤ 2000 := by simp at h; omega
  clear h
  have hlen := worth_len (n := 20) vs
  have hx02 := hx1.trans' hx2
  refine go_LFrameBack (k := ?_)
  refine OW_callC Try.func20 (by kernel_rfl) rfl (join_any w2 A c vs (hA.ext hx02) hw) rfl ?_
  rintro en w3 ⟨A2, c2, E, c5, rfl, hbF, hcF, hE, hx3⟩
  refine ⟨_, rfl, ?_⟩
  have hx03 := hx02.trans' hx3
  have hple : ∀ p ∈ vs.map pay, p.length ≤ 65536 := fun p hp => by
    obtain ⟨v, hv, rfl⟩ := List.mem_map.1 hp
    have := worth_each (n := 20) hv
    have : (pay v).length = v.2.2.length := rfl
    omega
  have hFl : (framesB (vs.map pay)).length ≤ 2000 := by
    have : ∀ us : List BV, (framesB (us.map pay)).length ≤ worth 20 us := by
      intro us
      induction us with
      | nil => simp [framesB]
      | cons u us ih =>
        unfold worth at ih ⊢
        rw [List.map_cons, framesB_cons, List.length_append, frameB_length, List.map_cons, List.sum_cons]
        show u.2.2.length + 12 + _ ≤ _
        omega
    have := this vs
    omega
  have hcut := fun {k n : Nat} => isAll_cut hple (k := k) (cut := n)
  have hends := fun {k : Nat} (h : k < vs.length) => endsL_get (l := vs.map pay) (k := k) (by simpa using h)
  obtain ⟨fl, hfl⟩ : ∃ fl : Nat → Nat, fl = fun k => (framesB ((vs.map pay).take k)).length := ⟨_, rfl⟩
  have hfl0 : fl 0 = 0 := by rw [hfl]; simp [framesB]
  have hfln : ∀ k, (framesB ((vs.map pay).take k)).length = fl k := fun k => by rw [hfl]
  have hfm : ∀ k, k ≤ vs.length → fl k ≤ (framesB (vs.map pay)).length := fun k hk => by
    rw [hfl]
    have := congrArg List.length (framesB_take (vs.map pay) k)
    rw [List.length_append] at this
    show (framesB ((vs.map pay).take k)).length ≤ _
    omega
  simp only [hfln] at hcut hends
  have hI : ∀ {k : Nat} (h : k < vs.length) {v : World}, Ext w3 v → ∃ ad, E = some ad ∧ v.cell? (ad.add k) = some (.int .i64 ((fl (k + 1) : Nat) : Int)) := fun {k} h {v} hv => by
    obtain ⟨ad, ha, hcl⟩ := (hE.ext hv).at_ (j := k) (by rw [endsL_length]; simpa using h)
    exact ⟨ad, ha, by rw [hcl, hends h]⟩
  clear hE hends hfl hple
  generalize framesB (vs.map pay) = F at *
  refine go_LFrameBack (k := ?_)
  refine OW_meet (fun e' w' => e' 0 = .slice A vs.length c ∧ e' 1 = .int .i64 cut ∧ e' 5 = .slice A2 F.length c2 ∧ e' 6 = .slice E vs.length c5 ∧ e' 28 = .bool (decide (cut < 0) || decide ((F.length : Int) < cut)) ∧ w' = w3) ?_ ?_
  · refine OW_split 23 _ rfl (fun h => ?_) (fun h => ?_)
    · rw [h]
      refine go_LFrameBack (k := ?_)
      exact ⟨rfl, rfl, rfl, rfl, rfl, rfl, rfl⟩
    · rw [h]
      refine go_LFrameBack (k := ?_)
      exact ⟨rfl, rfl, rfl, rfl, rfl, rfl, rfl⟩
  rintro e4 w4 ⟨q0, q1, q5, q6, q28, rfl⟩
  rw [upd_self q0, upd_self q1, upd_self q5, upd_self q6, upd_self q28]
  refine go_LFrameBack (k := ?_)
  refine CW_meet (fun e' w' => ∃ n : Nat, n ≤ F.length ∧ e' 0 = .slice A vs.length c ∧ e' 1 = .int .i64 n ∧ e' 5 = .slice A2 F.length c2 ∧ e' 6 = .slice E vs.length c5 ∧ w' = w4) ?_ ?_
  · refine CW_cond _ rfl (fun h => ?_) (fun h => ?_)
    · refine go_LFrameBack (k := ?_)
      exact ⟨rfl, F.length, Nat.le_refl _, rfl, rfl, rfl, rfl, rfl⟩
    · have h1 : 0 ≤ cut ∧ cut ≤ F.length := by simp at h; omega
      refine go_LFrameBack (k := ?_)
      refine ⟨rfl, cut.toNat, by omega, rfl, ?_, rfl, rfl, rfl⟩
      show Value.int .i64 cut = _
      rw [show ((cut.toNat : Nat) : Int) = cut by omega]
  rintro e5 w5 ⟨n, hn, q0, q1, q5, q6, rfl⟩
  rw [upd_self q0, upd_self q1, upd_self q5, upd_self q6]
  clear hi q28
  refine go_LFrameBack (k := ?_)
  refine CW_meetB (fun e' w' => ∃ k : Nat, k ≤ vs.length ∧ IsAll (F.take n) ((vs.map pay).take k) ∧ e' 0 = .slice A vs.length c ∧ e' 1 = .int .i64 n ∧ e' 5 = .slice A2 F.length c2 ∧ e' 7 = .int .i64 k ∧ e' 8 = .int .i64 (fl k) ∧ w' = w5) ?_ ?_
  · refine CW_loop (fun e' w' => ∃ k : Nat, k ≤ vs.length ∧ fl k ≤ n ∧ e' 0 = .slice A vs.length c ∧ e' 1 = .int .i64 n ∧ e' 5 = .slice A2 F.length c2 ∧ e' 6 = .slice E vs.length c5 ∧ e' 7 = .int .i64 k ∧ e' 8 = .int .i64 (fl k) ∧ w' = w5) (fun e' _ => vs.length - (intOf (e' 7)).toNat) ?_ ?_
    · exact ⟨0, by omega, by omega, rfl, rfl, rfl, rfl, rfl, by rw [hfl0]; rfl, rfl⟩
    rintro e6 w6 ⟨k, hk, hkn, q0, q1, q5, q6, q7, q8, rfl⟩
    rw [upd_self q0, upd_self q1, upd_self q5, upd_self q6, upd_self q7, upd_self q8]
    refine go_LFrameBack (k := ?_)
    refine OW_split 35 _ rfl (fun h => ?_) (fun h => ?_)
    · have hlt : k < vs.length := by simpa using h
      clear h
      obtain ⟨ad, rfl, hcl⟩ := hI hlt (Ext.rfl' _)
      refine go_LFrameBack (k := ?_)
      refine CW_cond _ rfl (fun h => ?_) (fun h => ?_)
      · have hle : fl (k + 1) ≤ n := by have := of_decide_eq_true h; omega
        clear h
        refine go_LFrameBack (k := ?_)
        refine ⟨⟨k + 1, hlt, hle, rfl, rfl, rfl, rfl, rfl, rfl, rfl⟩, ?_⟩
        show vs.length - ((k : Int) + 1).toNat < vs.length - (k : Int).toNat
        omega
      · have hgt : n < fl (k + 1) := by have := of_decide_eq_false h; omega
        refine go_LFrameBack (k := ?_)
        exact ⟨rfl, k, hk, hcut hkn hn (fun _ => hgt), rfl, rfl, rfl, rfl, rfl, rfl⟩
    · have hge : k = vs.length := by simp at h; omega
      clear h
      refine go_LFrameBack (k := ?_)
      exact ⟨rfl, k, hk, hcut hkn hn (fun h => absurd h (by simp; omega)), rfl, rfl, rfl, rfl, rfl, rfl⟩
  rintro e6 w6 ⟨k, hk, hia, q0, q1, q5, q7, q8, rfl⟩
  rw [upd_self q0, upd_self q1, upd_self q5, upd_self q7, upd_self q8]
  refine go_LFrameBack (k := ?_)
  refine OW_sliceBs und_bytes one_u8 hbF rfl hcF rfl rfl ⟨_, rfl⟩ 0 n rfl rfl (by omega) ?_
  intro A7 hb7 hl7
  rw [show (F.drop 0).take (n - 0) = F.take n from rfl] at hb7 hl7
  rw [← hl7]
  refine go_LFrameBack (k := ?_)
  refine OW_callC Try.func16 (by kernel_rfl) rfl (frameAll_any w6 A7 (c2 - 0) (F.take n) hb7 (by omega) (by omega)) rfl ?_
  rintro en w7 ⟨A8, c8, us, rfl, hiu, hR, hx7⟩
  refine ⟨_, rfl, ?_⟩
  have hus := isAll_uniq hiu hia
  have hul : us.length = k := by have := congrArg List.length hus; simpa [Nat.min_eq_left hk] using this
  have hpay : ∀ (j : Nat) (h1 : j < us.length) (h2 : j < vs.length), (us[j]).2.2 = (vs[j]).2.2 := fun j h1 h2 => by
    have := congrArg (fun l => l[j]?) hus
    simpa [List.getElem?_map, List.getElem?_take, List.getElem?_eq_getElem h1, List.getElem?_eq_getElem h2, show j < k by omega] using this
  have hRa := hR.arg
  have hx07 := hx03.trans' hx7
  rw [hus, hfln]
  have hbl : ∀ v ∈ vs, v.2.2.length ≤ 2000 := fun v hv => by have := worth_each (n := 20) hv; omega
  clear hcut hI hb7 hbF hiu hia hus hR hw hfln hfm
  subst hul
  refine go_LFrameBack (k := ?_)
  rw [show (((us.length : Nat) : Int) != ((us.length : Nat) : Int)) = false by simp]
  refine go_LFrameBack (k := ?_)
  rw [show (((fl us.length : Nat) : Int) != ((fl us.length : Nat) : Int)) = false by simp]
  refine go_LFrameBack (k := ?_)
  refine CW_meetB (fun e' w' => Ext w w') ?_ ?_
  · refine CW_loop (fun e' w' => ∃ i : Nat, i ≤ us.length ∧ e' 0 = .slice A vs.length c ∧ e' 7 = .int .i64 us.length ∧ e' 9 = .slice A8 us.length c8 ∧ e' 11 = .int .i64 i ∧ Ext w7 w') (fun e' _ => us.length - (intOf (e' 11)).toNat) ?_ ?_
    · exact ⟨0, by omega, rfl, rfl, rfl, rfl, Ext.rfl' _⟩
    rintro e8 w8 ⟨i, hi, q0, q7, q9, q11, hx8⟩
    rw [upd_self q0, upd_self q7, upd_self q9, upd_self q11]
    refine go_LFrameBack (k := ?_)
    refine CW_cond _ rfl (fun h => ?_) (fun h => ?_)
    · have hlt : i < us.length := by simpa using h
      clear h
      have hlv : i < vs.length := by omega
      have hx08 := hx07.trans' hx8
      obtain ⟨ad, rfl, hcA⟩ := (hRa.ext hx8).cell hlt
      obtain ⟨bd, rfl, hcB⟩ := (hA.ext hx08).cell hlv
      have hbA := (hRa.bs _ (List.getElem_mem hlt))
      have hbB := (hA.bs _ (List.getElem_mem hlv)).1.ext hx08
      have hvB := hbl _ (List.getElem_mem hlv)
      have hp := hpay i hlt hlv
      have hcB' := (hA.bs _ (List.getElem_mem hlv)).2
      generalize us[i] = x at *
      generalize vs[i] = y at *
      obtain ⟨xA, xc, xl⟩ := x
      obtain ⟨yA, yc, yl⟩ := y
      replace hcA : w8.cell? (ad.add i) = some (.slice xA xl.length xc) := hcA
      replace hcB : w8.cell? (bd.add i) = some (.slice yA yl.length yc) := hcB
      simp only at hbA hbB hvB hp hcB'
      subst hp
      obtain ⟨hbA, hcx⟩ := hbA
      refine go_LFrameBack (k := ?_)
      obtain ⟨C, hC⟩ : ∃ C : World → Prop, C = fun v => Ext w8 v := ⟨_, rfl⟩
      have y_hcA := cellE hC hcA
      have y_hcB := cellE hC hcB
      refine CW_tree2 [3, 7] (.p 0 (.p 1 (.p 2 (.q 3 (.p 4 (.p 5 (.p 6 (.q 7 (.d 8 (.p 9 .done)))))))))) (C) (by kernel_rfl) (by kernel_rfl) (by kernel_rfl) ?_ ?_
      · exact inE hC
      intro w9 hx9 h_C
      refine oy_LFrameBack (k := ?_)
      refine OW_callV Try.func21 (by kernel_rfl) rfl (same_any w9 xA yA xl xl xc yc (hbA.ext (hx8.trans' hx9)) (hbB.ext hx9) hcx (by omega)) rfl ?_
      intro w10 hx10
      rw [show (xl == xl) = true from beq_self_eq_true xl]
      first | refine OW_nil (goY_mkE hC (hx9.trans' hx10) ?_) | refine OW_nil (goY_dropE hC (hx9.trans' hx10) ?_)
      refine oy_LFrameBack (k := ?_)
      refine go_LFrameBack (k := ?_)
      refine ⟨⟨i + 1, hlt, rfl, rfl, rfl, rfl, (hx8.trans' hx9).trans' hx10⟩, ?_⟩
      show us.length - ((i : Int) + 1).toNat < us.length - (i : Int).toNat
      omega
    · refine go_LFrameBack (k := ?_)
      exact ⟨rfl, hx07.trans' hx8⟩
  rintro e8 w8 hx8
  refine go_LFrameBack (k := ?_)
  exact bodyE_ret1 rfl (.bool true) rfl ⟨rfl, hx8⟩
set_option maxRecDepth 100000 in
theorem lifted (os : Os) (started : os.Started) (H : Type) (enc : TypeId × Value → H) :
    ReturnsInHanded {} Try.checked os 7 .any (Rows.frameBackSpec.pre6 enc Try.prog Try.f7 Rows.frameBackRow.domain false) (Rows.frameBackSpec.post enc Try.prog Try.f7 false true false false) := by
  refine returnsInHanded_of_change_sized (C := Try.checked) ownP started (by kernel_rfl) Try.func7
    (ChangeSpec.witness6 (enc := enc) (C := Try.checked) false ⟨#[], #[.slice none 0 0, .int .i64 0], []⟩ 8 (by kernel_rfl) (by kernel_rfl) (by kernel_rfl) (by kernel_rfl)) ?_
  intro W base args ds gs before hval0 hW hcnd hwt0 _
  have hval : ∀ (j : Nat) t v, Try.f7.params[j]? = some t → args[j]? = some v → Value.okWide Try.prog W .any base t v := hval0
  have hW' := hW
  obtain ⟨p, q, hA0, hV, rfl, hfz, hnd⟩ := hW
  have hA : DataW.TrodAll enc Try.prog W 0 (fun _ => true) true Try.f7.params.toList args.toList ds p := hA0
  have hwt : (DataW.weightsEach Try.prog (Try.f7.params.toList ++ []) (ds ++ gs)).all (· ≤ reachBytes) = true := hwt0
  rw [Try.params7] at hA hval hwt
  obtain ⟨v0, vs0, d0, ds0, p0, q0, hargs, rfl, rfl, h0, r0⟩ := trodAll_cons hA
  obtain ⟨v1, vs1, d1, ds1, p1, q1, rfl, rfl, rfl, h1, r1⟩ := trodAll_cons r0
  obtain ⟨rfl, rfl, rfl⟩ := trodAll_nil r1
  obtain rfl : args = #[v0, v1] := by cases args; simp_all
  obtain ⟨rfl, rfl⟩ := trodVars_none hV
  have k0 := h0
  have lt0 : ∀ x ∈ p0, x.block < W.heap.size := by obtain ⟨m, hm⟩ := k0; exact DataW.trod_lt m _ _ _ hm
  have wk0 : WOk Try.prog 34 d0 := wok_each hwt 0 rfl rfl
  obtain ⟨a0, b0⟩ := kd_slice kBss und_bytess (hval 0 34 v0 rfl rfl) h0 wk0
  have k1 := h1
  have lt1 : ∀ x ∈ p1, x.block < W.heap.size := by obtain ⟨m, hm⟩ := k1; exact DataW.trod_lt m _ _ _ hm
  have wk1 : WOk Try.prog 3 d1 := wok_each hwt 1 rfl rfl
  obtain ⟨a1, b1⟩ := kd_int kI und_int (hval 1 3 v1 rfl rfl) h1 wk1
  clear hA0 hval0 hwt0
  refine (walk W v0 a0 b0 v1 a1 b1).mono fun e W' ⟨he, bel⟩ => ?_
  subst he
  exact ⟨_, rfl, _, _, _, [], _, [], hW', trodAll_mk1 (shut_bool Try.underlying4 _), (trodAll_cons_mk (Below.trod laidP (by kernel_rfl) (of_decide_eq_true (by kernel_rfl)) k0 bel lt0) (trodAll_cons_mk (Below.trod laidP (by kernel_rfl) (of_decide_eq_true (by kernel_rfl)) k1 bel lt1) trodAll_mk0)), rfl, bel.frame _, fun h => by cases h⟩
theorem over : Rows.frameBackRow.holds Try.pinned (OpenSpec.ofChange Rows.frameBackSpec) :=
  OpenClaim.holds_of_wide 7 Try.f7 rfl rfl rfl rfl rfl rfl rfl ⟨rfl, rfl, rfl, rfl, rfl⟩ rfl rfl rfl rfl rfl (by kernel_rfl) Try.func7 (by kernel_rfl)
    (of_decide_eq_true (by kernel_rfl)) (by unfold Func.isWrapper; first | (rw [if_pos (by decide +kernel)]; kernel_rfl) | (rw [if_neg (by decide +kernel)]; exact ⟨rfl, rfl⟩))
    (fun os started H enc _ => lifted os started H enc)
theorem proved : Rows.FrameBackSaid := over
#print axioms proved
end Go.Proofs.Ytdphahphbaebkaa.lawFrameBack
