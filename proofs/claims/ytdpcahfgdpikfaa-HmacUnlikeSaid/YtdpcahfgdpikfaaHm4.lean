/- Walks: keys that are derived; tags compared. -/
import Derived.Test.YtdpcahfgdpikfaaHm3
import Derived.Test.YtdpcahfgdpikfaaKt
import Derived.Test.YtdpcahfgdpikfaaWireT
import Derived.Test.YtdpcahfgdpikfaaMark
import Derived.Test.YtdpcahfgdpikfaaCat
import Derived.Test.YtdpcahfgdpikfaaHmW
import Derived.Test.YtdpcahfgdpikfaaOrd3
namespace Go.Proofs.Ytdpcahfgdpikfaa
open Go Go.RowKit
set_option linter.unusedVariables false
theorem go_Hm4 {A B : Prop} (h : Held B → A := by
  intro hEnd
  repeat (first | refine OW_sliceP h_slp_Tag rfl ?_ | refine OW_moveV (.int _ _) rfl ?_ | refine OW_moveV (.slice _ _ _) rfl ?_ | refine OW_moveV (.bool _) rfl ?_ | refine OW_moveV (.pointer _) rfl ?_ | refine OW_moveV (.string _) rfl ?_ | refine OW_moveV (.agg _) rfl ?_ | refine OW_moveV (.tuple _) rfl ?_ | refine OW_nil ?_ | refine thenE_normal ?_ | refine CW_seq ?_ | refine CW_region (by kernel_rfl) ?_ | refine OW_assignV (.int _ _) rfl ?_ | refine OW_assignV (.slice _ _ _) rfl ?_ | refine OW_assignV (.bool _) rfl ?_ | refine OW_assignV (.pointer _) rfl ?_ | refine OW_assignV (.string _) rfl ?_ | refine OW_assignV (.agg _) rfl ?_ | refine OW_assignV (.tuple _) rfl ?_ | refine OW_addI rfl rfl (by omega) ?_ | refine OW_subI rfl rfl (by omega) ?_ | refine OW_mulI rfl rfl (by omega) ?_ | refine OW_lss rfl rfl ?_ | refine OW_extract rfl rfl ?_ | refine OW_gtr rfl rfl ?_ | refine OW_leq rfl rfl ?_ | refine OW_geq rfl rfl ?_ | refine OW_eql rfl rfl ?_ | refine OW_neq rfl rfl ?_ | refine OW_not rfl ?_ | refine OW_pickT rfl _ rfl ?_ | refine OW_pickF rfl (.bool _) rfl ?_ | refine OW_pickB rfl rfl rfl ?_ | refine OW_move ?_ | refine OW_assign ?_ | refine OW_pass rfl ?_ | refine OW_take rfl ?_ | refine OW_lenS (by first | with_reducible exact und_bytes | with_reducible exact und_bytess) rfl ?_ | refine OW_convInt (by first | with_reducible exact und_u8 | with_reducible exact und_u64 | with_reducible exact und_int | with_reducible exact und_u32) (by first | with_reducible exact und_u8 | with_reducible exact und_u64 | with_reducible exact und_int | with_reducible exact und_u32) rfl ?_ | refine OW_add rfl rfl ?_ | refine OW_sub rfl rfl ?_ | refine OW_mul rfl rfl ?_ | refine OW_min2 rfl rfl ?_ | refine OW_max2 rfl rfl ?_ | refine OW_neg rfl ?_ | refine CW_block ?_ | refine CW_condT rfl ?_ | refine CW_condF rfl ?_ | refine CW_exit ?_ | refine CW_ret ?_ | refine CW_skip ?_ | refine LW_seq ?_ | refine LW_regC ?_ | refine LW_condC ?_ | refine LW_regF ?_ | refine LW_condF ?_ | refine FW_seq ?_ | refine FW_region (by kernel_rfl) ?_ | refine FW_block ?_ | refine FW_condT rfl ?_ | refine FW_condF rfl ?_ | refine FW_exit ?_ | refine FW_ret ?_ | refine FW_skip ?_ | refine LW_ret ?_ | refine LW_skip ?_ | refine thenE_exit ?_ | refine thenE_ret ?_ | refine inBlockE_normal ?_ | refine inBlockE_same ?_ | refine inBlockE_ret ?_ | refine inBlockE_ne (by rfl) ?_ | refine OW_eqlB (by with_reducible exact und_bool) rfl rfl ?_ | refine OW_neqB (by with_reducible exact und_bool) rfl rfl ?_ | refine OW_idxS (by with_reducible exact und_bytes) one_u8 rfl rfl _ rfl (by omega) ?_ | refine OW_idxS (by with_reducible exact und_bytess) one_bytes rfl rfl _ rfl (by omega) ?_ | refine OW_load1 (by first | with_reducible exact one_u8 | with_reducible exact one_bytes) rfl _ (by assumption) ?_ | refine OW_lenS und_ints rfl ?_ | refine OW_idxS und_ints s_int rfl rfl _ rfl (by omega) ?_ | refine OW_load1 s_int rfl _ (by assumption) ?_)
  exact hEnd.out) (k : B) : A := h ⟨k⟩
theorem oy_Hm4 {A B : Prop} (h : Held B → A := by
  intro hEnd
  repeat (first
    | refine OY_done ?_
    | (apply OY_p _ rfl
       · intro wd
         (first | refine OW_sliceP h_slp_Tag rfl ?_ | refine OW_moveV (.int _ _) rfl ?_ | refine OW_moveV (.slice _ _ _) rfl ?_ | refine OW_moveV (.bool _) rfl ?_ | refine OW_moveV (.pointer _) rfl ?_ | refine OW_moveV (.string _) rfl ?_ | refine OW_moveV (.agg _) rfl ?_ | refine OW_moveV (.tuple _) rfl ?_ | refine OW_nil ?_ | refine thenE_normal ?_ | refine CW_seq ?_ | refine CW_region (by kernel_rfl) ?_ | refine OW_assignV (.int _ _) rfl ?_ | refine OW_assignV (.slice _ _ _) rfl ?_ | refine OW_assignV (.bool _) rfl ?_ | refine OW_assignV (.pointer _) rfl ?_ | refine OW_assignV (.string _) rfl ?_ | refine OW_assignV (.agg _) rfl ?_ | refine OW_assignV (.tuple _) rfl ?_ | refine OW_addI rfl rfl (by omega) ?_ | refine OW_subI rfl rfl (by omega) ?_ | refine OW_mulI rfl rfl (by omega) ?_ | refine OW_lss rfl rfl ?_ | refine OW_extract rfl rfl ?_ | refine OW_gtr rfl rfl ?_ | refine OW_leq rfl rfl ?_ | refine OW_geq rfl rfl ?_ | refine OW_eql rfl rfl ?_ | refine OW_neq rfl rfl ?_ | refine OW_not rfl ?_ | refine OW_pickT rfl _ rfl ?_ | refine OW_pickF rfl (.bool _) rfl ?_ | refine OW_pickB rfl rfl rfl ?_ | refine OW_move ?_ | refine OW_assign ?_ | refine OW_pass rfl ?_ | refine OW_take rfl ?_ | refine OW_lenS (by first | with_reducible exact und_bytes | with_reducible exact und_bytess) rfl ?_ | refine OW_convInt (by first | with_reducible exact und_u8 | with_reducible exact und_u64 | with_reducible exact und_int | with_reducible exact und_u32) (by first | with_reducible exact und_u8 | with_reducible exact und_u64 | with_reducible exact und_int | with_reducible exact und_u32) rfl ?_ | refine OW_add rfl rfl ?_ | refine OW_sub rfl rfl ?_ | refine OW_mul rfl rfl ?_ | refine OW_min2 rfl rfl ?_ | refine OW_max2 rfl rfl ?_ | refine OW_neg rfl ?_ | refine CW_block ?_ | refine CW_condT rfl ?_ | refine CW_condF rfl ?_ | refine CW_exit ?_ | refine CW_ret ?_ | refine CW_skip ?_ | refine LW_seq ?_ | refine LW_regC ?_ | refine LW_condC ?_ | refine LW_regF ?_ | refine LW_condF ?_ | refine FW_seq ?_ | refine FW_region (by kernel_rfl) ?_ | refine FW_block ?_ | refine FW_condT rfl ?_ | refine FW_condF rfl ?_ | refine FW_exit ?_ | refine FW_ret ?_ | refine FW_skip ?_ | refine LW_ret ?_ | refine LW_skip ?_ | refine thenE_exit ?_ | refine thenE_ret ?_ | refine inBlockE_normal ?_ | refine inBlockE_same ?_ | refine inBlockE_ret ?_ | refine inBlockE_ne (by rfl) ?_ | refine OW_eqlB (by with_reducible exact und_bool) rfl rfl ?_ | refine OW_neqB (by with_reducible exact und_bool) rfl rfl ?_ | refine OW_idxS (by with_reducible exact und_bytes) one_u8 rfl rfl _ rfl (by omega) ?_ | refine OW_idxS (by with_reducible exact und_bytess) one_bytes rfl rfl _ rfl (by omega) ?_ | refine OW_load1 (by first | with_reducible exact one_u8 | with_reducible exact one_bytes) rfl _ (by assumption) ?_ | refine OW_lenS und_ints rfl ?_ | refine OW_idxS und_ints s_int rfl rfl _ rfl (by omega) ?_ | refine OW_load1 s_int rfl _ (by assumption) ?_)
         refine OW_nil ?_
         exact stay_mk _ _ _ _)
    | (apply OY_q _ rfl
       · intro wd hwd
         (first | refine OW_sliceP h_slp_Tag rfl ?_ | refine OW_moveV (.int _ _) rfl ?_ | refine OW_moveV (.slice _ _ _) rfl ?_ | refine OW_moveV (.bool _) rfl ?_ | refine OW_moveV (.pointer _) rfl ?_ | refine OW_moveV (.string _) rfl ?_ | refine OW_moveV (.agg _) rfl ?_ | refine OW_moveV (.tuple _) rfl ?_ | refine OW_nil ?_ | refine thenE_normal ?_ | refine CW_seq ?_ | refine CW_region (by kernel_rfl) ?_ | refine OW_assignV (.int _ _) rfl ?_ | refine OW_assignV (.slice _ _ _) rfl ?_ | refine OW_assignV (.bool _) rfl ?_ | refine OW_assignV (.pointer _) rfl ?_ | refine OW_assignV (.string _) rfl ?_ | refine OW_assignV (.agg _) rfl ?_ | refine OW_assignV (.tuple _) rfl ?_ | refine OW_addI rfl rfl (by omega) ?_ | refine OW_subI rfl rfl (by omega) ?_ | refine OW_mulI rfl rfl (by omega) ?_ | refine OW_lss rfl rfl ?_ | refine OW_extract rfl rfl ?_ | refine OW_gtr rfl rfl ?_ | refine OW_leq rfl rfl ?_ | refine OW_geq rfl rfl ?_ | refine OW_eql rfl rfl ?_ | refine OW_neq rfl rfl ?_ | refine OW_not rfl ?_ | refine OW_pickT rfl _ rfl ?_ | refine OW_pickF rfl (.bool _) rfl ?_ | refine OW_pickB rfl rfl rfl ?_ | refine OW_move ?_ | refine OW_assign ?_ | refine OW_pass rfl ?_ | refine OW_take rfl ?_ | refine OW_lenS (by first | with_reducible exact und_bytes | with_reducible exact und_bytess) rfl ?_ | refine OW_convInt (by first | with_reducible exact und_u8 | with_reducible exact und_u64 | with_reducible exact und_int | with_reducible exact und_u32) (by first | with_reducible exact und_u8 | with_reducible exact und_u64 | with_reducible exact und_int | with_reducible exact und_u32) rfl ?_ | refine OW_add rfl rfl ?_ | refine OW_sub rfl rfl ?_ | refine OW_mul rfl rfl ?_ | refine OW_min2 rfl rfl ?_ | refine OW_max2 rfl rfl ?_ | refine OW_neg rfl ?_ | refine CW_block ?_ | refine CW_condT rfl ?_ | refine CW_condF rfl ?_ | refine CW_exit ?_ | refine CW_ret ?_ | refine CW_skip ?_ | refine LW_seq ?_ | refine LW_regC ?_ | refine LW_condC ?_ | refine LW_regF ?_ | refine LW_condF ?_ | refine FW_seq ?_ | refine FW_region (by kernel_rfl) ?_ | refine FW_block ?_ | refine FW_condT rfl ?_ | refine FW_condF rfl ?_ | refine FW_exit ?_ | refine FW_ret ?_ | refine FW_skip ?_ | refine LW_ret ?_ | refine LW_skip ?_ | refine thenE_exit ?_ | refine thenE_ret ?_ | refine inBlockE_normal ?_ | refine inBlockE_same ?_ | refine inBlockE_ret ?_ | refine inBlockE_ne (by rfl) ?_ | refine OW_eqlB (by with_reducible exact und_bool) rfl rfl ?_ | refine OW_neqB (by with_reducible exact und_bool) rfl rfl ?_ | refine OW_idxS (by with_reducible exact und_bytes) one_u8 rfl rfl _ rfl (by omega) ?_ | refine OW_idxS (by with_reducible exact und_bytess) one_bytes rfl rfl _ rfl (by omega) ?_ | refine OW_load1 (by first | with_reducible exact one_u8 | with_reducible exact one_bytes) rfl _ (by assumption) ?_ | refine OW_lenS und_ints rfl ?_ | refine OW_idxS und_ints s_int rfl rfl _ rfl (by omega) ?_ | refine OW_load1 s_int rfl _ (by assumption) ?_ | (refine OW_isLoad ?_; refine OW_loadBk (by first | with_reducible exact one_u8 | with_reducible exact one_bytes | with_reducible exact one_bool | with_reducible exact one_int | with_reducible exact one_errno | with_reducible exact one_u32 | with_reducible exact one_u64 | with_reducible exact one_string) rfl (by apply_assumption; assumption) _ (by first | assumption | rfl) ?_) | refine OW_load1 (by first | with_reducible exact one_u8 | with_reducible exact one_bytes | with_reducible exact one_bool | with_reducible exact one_int | with_reducible exact one_errno | with_reducible exact one_u32 | with_reducible exact one_u64 | with_reducible exact one_string) rfl _ (by apply_assumption; assumption) ?_)
         refine OW_nil ?_
         exact stay_mk _ _ _ _)
    | refine OY_ppass rfl rfl ?_
    | refine OY_qpass rfl rfl ?_
    | (apply OY_ptake _ rfl rfl
       · intro wd
         (first | refine OW_sliceP h_slp_Tag rfl ?_ | refine OW_moveV (.int _ _) rfl ?_ | refine OW_moveV (.slice _ _ _) rfl ?_ | refine OW_moveV (.bool _) rfl ?_ | refine OW_moveV (.pointer _) rfl ?_ | refine OW_moveV (.string _) rfl ?_ | refine OW_moveV (.agg _) rfl ?_ | refine OW_moveV (.tuple _) rfl ?_ | refine OW_nil ?_ | refine thenE_normal ?_ | refine CW_seq ?_ | refine CW_region (by kernel_rfl) ?_ | refine OW_assignV (.int _ _) rfl ?_ | refine OW_assignV (.slice _ _ _) rfl ?_ | refine OW_assignV (.bool _) rfl ?_ | refine OW_assignV (.pointer _) rfl ?_ | refine OW_assignV (.string _) rfl ?_ | refine OW_assignV (.agg _) rfl ?_ | refine OW_assignV (.tuple _) rfl ?_ | refine OW_addI rfl rfl (by omega) ?_ | refine OW_subI rfl rfl (by omega) ?_ | refine OW_mulI rfl rfl (by omega) ?_ | refine OW_lss rfl rfl ?_ | refine OW_extract rfl rfl ?_ | refine OW_gtr rfl rfl ?_ | refine OW_leq rfl rfl ?_ | refine OW_geq rfl rfl ?_ | refine OW_eql rfl rfl ?_ | refine OW_neq rfl rfl ?_ | refine OW_not rfl ?_ | refine OW_pickT rfl _ rfl ?_ | refine OW_pickF rfl (.bool _) rfl ?_ | refine OW_pickB rfl rfl rfl ?_ | refine OW_move ?_ | refine OW_assign ?_ | refine OW_pass rfl ?_ | refine OW_take rfl ?_ | refine OW_lenS (by first | with_reducible exact und_bytes | with_reducible exact und_bytess) rfl ?_ | refine OW_convInt (by first | with_reducible exact und_u8 | with_reducible exact und_u64 | with_reducible exact und_int | with_reducible exact und_u32) (by first | with_reducible exact und_u8 | with_reducible exact und_u64 | with_reducible exact und_int | with_reducible exact und_u32) rfl ?_ | refine OW_add rfl rfl ?_ | refine OW_sub rfl rfl ?_ | refine OW_mul rfl rfl ?_ | refine OW_min2 rfl rfl ?_ | refine OW_max2 rfl rfl ?_ | refine OW_neg rfl ?_ | refine CW_block ?_ | refine CW_condT rfl ?_ | refine CW_condF rfl ?_ | refine CW_exit ?_ | refine CW_ret ?_ | refine CW_skip ?_ | refine LW_seq ?_ | refine LW_regC ?_ | refine LW_condC ?_ | refine LW_regF ?_ | refine LW_condF ?_ | refine FW_seq ?_ | refine FW_region (by kernel_rfl) ?_ | refine FW_block ?_ | refine FW_condT rfl ?_ | refine FW_condF rfl ?_ | refine FW_exit ?_ | refine FW_ret ?_ | refine FW_skip ?_ | refine LW_ret ?_ | refine LW_skip ?_ | refine thenE_exit ?_ | refine thenE_ret ?_ | refine inBlockE_normal ?_ | refine inBlockE_same ?_ | refine inBlockE_ret ?_ | refine inBlockE_ne (by rfl) ?_ | refine OW_eqlB (by with_reducible exact und_bool) rfl rfl ?_ | refine OW_neqB (by with_reducible exact und_bool) rfl rfl ?_ | refine OW_idxS (by with_reducible exact und_bytes) one_u8 rfl rfl _ rfl (by omega) ?_ | refine OW_idxS (by with_reducible exact und_bytess) one_bytes rfl rfl _ rfl (by omega) ?_ | refine OW_load1 (by first | with_reducible exact one_u8 | with_reducible exact one_bytes) rfl _ (by assumption) ?_ | refine OW_lenS und_ints rfl ?_ | refine OW_idxS und_ints s_int rfl rfl _ rfl (by omega) ?_ | refine OW_load1 s_int rfl _ (by assumption) ?_)
         refine OW_nil ?_
         exact stay_mk _ _ _ _)
    | (apply OY_qtake _ rfl rfl
       · intro wd hwd
         (first | refine OW_sliceP h_slp_Tag rfl ?_ | refine OW_moveV (.int _ _) rfl ?_ | refine OW_moveV (.slice _ _ _) rfl ?_ | refine OW_moveV (.bool _) rfl ?_ | refine OW_moveV (.pointer _) rfl ?_ | refine OW_moveV (.string _) rfl ?_ | refine OW_moveV (.agg _) rfl ?_ | refine OW_moveV (.tuple _) rfl ?_ | refine OW_nil ?_ | refine thenE_normal ?_ | refine CW_seq ?_ | refine CW_region (by kernel_rfl) ?_ | refine OW_assignV (.int _ _) rfl ?_ | refine OW_assignV (.slice _ _ _) rfl ?_ | refine OW_assignV (.bool _) rfl ?_ | refine OW_assignV (.pointer _) rfl ?_ | refine OW_assignV (.string _) rfl ?_ | refine OW_assignV (.agg _) rfl ?_ | refine OW_assignV (.tuple _) rfl ?_ | refine OW_addI rfl rfl (by omega) ?_ | refine OW_subI rfl rfl (by omega) ?_ | refine OW_mulI rfl rfl (by omega) ?_ | refine OW_lss rfl rfl ?_ | refine OW_extract rfl rfl ?_ | refine OW_gtr rfl rfl ?_ | refine OW_leq rfl rfl ?_ | refine OW_geq rfl rfl ?_ | refine OW_eql rfl rfl ?_ | refine OW_neq rfl rfl ?_ | refine OW_not rfl ?_ | refine OW_pickT rfl _ rfl ?_ | refine OW_pickF rfl (.bool _) rfl ?_ | refine OW_pickB rfl rfl rfl ?_ | refine OW_move ?_ | refine OW_assign ?_ | refine OW_pass rfl ?_ | refine OW_take rfl ?_ | refine OW_lenS (by first | with_reducible exact und_bytes | with_reducible exact und_bytess) rfl ?_ | refine OW_convInt (by first | with_reducible exact und_u8 | with_reducible exact und_u64 | with_reducible exact und_int | with_reducible exact und_u32) (by first | with_reducible exact und_u8 | with_reducible exact und_u64 | with_reducible exact und_int | with_reducible exact und_u32) rfl ?_ | refine OW_add rfl rfl ?_ | refine OW_sub rfl rfl ?_ | refine OW_mul rfl rfl ?_ | refine OW_min2 rfl rfl ?_ | refine OW_max2 rfl rfl ?_ | refine OW_neg rfl ?_ | refine CW_block ?_ | refine CW_condT rfl ?_ | refine CW_condF rfl ?_ | refine CW_exit ?_ | refine CW_ret ?_ | refine CW_skip ?_ | refine LW_seq ?_ | refine LW_regC ?_ | refine LW_condC ?_ | refine LW_regF ?_ | refine LW_condF ?_ | refine FW_seq ?_ | refine FW_region (by kernel_rfl) ?_ | refine FW_block ?_ | refine FW_condT rfl ?_ | refine FW_condF rfl ?_ | refine FW_exit ?_ | refine FW_ret ?_ | refine FW_skip ?_ | refine LW_ret ?_ | refine LW_skip ?_ | refine thenE_exit ?_ | refine thenE_ret ?_ | refine inBlockE_normal ?_ | refine inBlockE_same ?_ | refine inBlockE_ret ?_ | refine inBlockE_ne (by rfl) ?_ | refine OW_eqlB (by with_reducible exact und_bool) rfl rfl ?_ | refine OW_neqB (by with_reducible exact und_bool) rfl rfl ?_ | refine OW_idxS (by with_reducible exact und_bytes) one_u8 rfl rfl _ rfl (by omega) ?_ | refine OW_idxS (by with_reducible exact und_bytess) one_bytes rfl rfl _ rfl (by omega) ?_ | refine OW_load1 (by first | with_reducible exact one_u8 | with_reducible exact one_bytes) rfl _ (by assumption) ?_ | refine OW_lenS und_ints rfl ?_ | refine OW_idxS und_ints s_int rfl rfl _ rfl (by omega) ?_ | refine OW_load1 s_int rfl _ (by assumption) ?_ | (refine OW_isLoad ?_; refine OW_loadBk (by first | with_reducible exact one_u8 | with_reducible exact one_bytes | with_reducible exact one_bool | with_reducible exact one_int | with_reducible exact one_errno | with_reducible exact one_u32 | with_reducible exact one_u64 | with_reducible exact one_string) rfl (by apply_assumption; assumption) _ (by first | assumption | rfl) ?_) | refine OW_load1 (by first | with_reducible exact one_u8 | with_reducible exact one_bytes | with_reducible exact one_bool | with_reducible exact one_int | with_reducible exact one_errno | with_reducible exact one_u32 | with_reducible exact one_u64 | with_reducible exact one_string) rfl _ (by apply_assumption; assumption) ?_)
         refine OW_nil ?_
         exact stay_mk _ _ _ _)
    | refine OY_a (actY_of rfl ?_)
    | refine OY_d (actY_of rfl ?_)
    | refine OY_a (actY_pass rfl rfl ?_)
    | refine OY_d (actY_pass rfl rfl ?_)
    | refine OY_a (actY_take rfl rfl ?_)
    | refine OY_d (actY_take rfl rfl ?_))
  exact hEnd.out) (k : B) : A := h ⟨k⟩
set_option maxHeartbeats 8000000 in
theorem hsame_any (w : World) (a b : List UInt8) (ha : a.length = 32) (hb : b.length = 32) :
    Calls Try.prog 60 #[.agg (a.map bv).toArray, .agg (b.map bv).toArray] w (RetV w (.bool (a == b))) := by
  refine calls_of_CW Try.func60 rfl (by simp [Try.ntmps60]) ?_
  rw [Try.ntmps60]
  refine go_Hm4 (k := ?_)
  refine OW_box _ rfl ?_
  intro w1 g1 hb1 hg1 hl1 hx1
  replace hb1 : Blk w1 g1 29 (a.map bv).toArray := hb1
  refine go_Hm4 (k := ?_)
  refine OW_box _ rfl ?_
  intro w2 g2 hb2 hg2 hl2 hx2
  replace hb2 : Blk w2 g2 29 (b.map bv).toArray := hb2
  have hx := hx1.trans' hx2
  refine go_Hm4 (k := ?_)
  obtain ⟨C, hC⟩ : ∃ C : World → Prop, C = fun v => Ext w2 v := ⟨_, rfl⟩
  refine CW_tree2 [] (.p 0 (.p 1 (.d 2 (.p 3 .done)))) (C) (by kernel_rfl) (by kernel_rfl) (by kernel_rfl) ?_ ?_
  · exact inE hC
  intro w3 hx3 h_C
  refine oy_Hm4 (k := ?_)
  refine OW_callV Try.func21 (by kernel_rfl) rfl (same_any w3 (some ⟨g1, 0, none⟩) (some ⟨g2, 0, none⟩) a b 32 32 ((bs_row hb1).ext (hx2.trans' hx3)) ((bs_row hb2).ext hx3) (by omega) (by omega)) (by rw [ha, hb]; rfl) ?_
  intro w4 hx4
  first | refine OW_nil (goY_mkE hC (hx3.trans' hx4) ?_) | refine OW_nil (goY_dropE hC (hx3.trans' hx4) ?_)
  refine oy_Hm4 (k := ?_)
  refine go_Hm4 (k := ?_)
  exact bodyE_ret1 rfl (.bool (a == b)) rfl ⟨rfl, (hx.trans' hx3).trans' hx4⟩
set_option maxHeartbeats 8000000 in
theorem hderive_any (w : World) (A : Option Addr) (cA : Nat) (key : List UInt8) (ha : Bs w A key) (hca : key.length ≤ cA) (hla : key.length ≤ 90000) (s : ByteArray) (hs : s.data.toList.length ≤ 1000) (L : Option Addr) (cL : Nat) (l : List Int) (hL : Is w L l) (hll : l.length ≤ 1000) :
    Calls Try.prog 22 #[.slice A key.length cA, .string s, .slice L l.length cL] w (RetBs 29 w (hmacL key (formB s l))) := by
  have hfl : ∀ k, (formB s (l.take k)).length ≤ 10000 := fun k => by rw [formB_length, List.length_take]; omega
  refine calls_of_CW Try.func22 rfl (by simp [Try.ntmps22]) ?_
  rw [Try.ntmps22]
  refine go_Hm4 (k := ?_)
  refine OW_bytesOf s und_string und_bytes und_u8 rfl ?_
  intro w1 A1 c1 hb1 hA1 hx1
  refine go_Hm4 (k := ?_)
  refine OW_lit [bv 0] und_bytes info_u8 rfl rfl (by simp [bv, Value.oneCell']) (by decide) ?_
  intro w2 g2 hb2 hg2 hx2
  refine go_Hm4 (k := ?_)
  refine OW_lit [.slice A1 s.data.toList.length c1, .slice (some ⟨g2, 0, none⟩) 1 1] und_bytess info_bytes rfl rfl (by simp [Value.oneCell']) (by decide) ?_
  intro w3 g3 hb3 hg3 hx3
  have hcat := cat_lit2 (c := 2) hb3 (hb1.ext (hx2.trans' hx3)) rfl ((bs_lit [0] _ hb2 rfl).ext hx3) rfl (show s.data.toList.length + 1 ≤ 1000000 by omega)
  rw [show s.data.toList ++ ([0] : List UInt8) = formB s (l.take 0) by simp [formB, numsB]] at hcat
  refine go_Hm4 (k := ?_)
  refine OW_callBs Try.func20 (by kernel_rfl) rfl hcat rfl ?_
  intro w4 A4 c4 hf4
  have hx04 := ((hx1.trans' hx2).trans' hx3).trans' hf4.ext
  refine go_Hm4 (k := ?_)
  refine CW_meetB (fun e' w' => e' 0 = .slice A key.length cA ∧ ∃ B cB, e' 7 = .slice B (formB s l).length cB ∧ Bs w' B (formB s l) ∧ Ext w w') ?_ ?_
  · refine CW_loop (fun e' w' => ∃ (k : Nat) (B : Option Addr) (cB : Nat), k ≤ l.length ∧ e' 0 = .slice A key.length cA ∧ e' 7 = .slice B (formB s (l.take k)).length cB ∧ e' 16 = .slice L l.length cL ∧ e' 17 = .int .i64 l.length ∧ e' 18 = .int .i64 k ∧ Bs w' B (formB s (l.take k)) ∧ Ext w w') (fun e' _ => l.length - (intOf (e' 18)).toNat) ?_ ?_
    · exact ⟨0, A4, c4, by omega, rfl, rfl, rfl, rfl, rfl, hf4.bs, hx04⟩
    rintro e' w' ⟨k, B, cB, hk, q0, q7, q16, q17, q18, hB, hx⟩
    rw [upd_self q0, upd_self q7, upd_self q16, upd_self q17, upd_self q18]
    have hfk := hfl k
    refine go_Hm4 (k := ?_)
    refine CW_cond _ rfl (fun h => ?_) (fun h => ?_)
    · have hlt : k < l.length := by simpa using h
      obtain ⟨ad, rfl, hcell⟩ := (hL.ext hx).at_ hlt
      refine go_Hm4 (k := ?_)
      rw [wrap_u64I]
      refine OW_callBs Try.func65 (by kernel_rfl) rfl (put64_any w' (u64N l[k]) (u64N_lt _)) rfl ?_
      intro w5 A5 c5 hf5
      have hp8 := putL_length (u64N l[k]) 8
      refine go_Hm4 (k := ?_)
      refine OW_lit [.slice B (formB s (l.take k)).length cB, .slice A5 (putL (u64N l[k]) 8).length c5] und_bytess info_bytes rfl rfl (by simp [Value.oneCell']) (by decide) ?_
      intro w6 g6 hb6 hg6 hx6
      have hcat := cat_lit2 (c := 2) hb6 (hB.ext (hf5.ext.trans' hx6)) rfl (hf5.bs.ext hx6) rfl (by omega)
      rw [← formB_take hlt] at hcat
      refine go_Hm4 (k := ?_)
      refine OW_callBs Try.func20 (by kernel_rfl) rfl hcat rfl ?_
      intro w7 A7 c7 hf7
      refine go_Hm4 (k := ?_)
      refine ⟨⟨k + 1, A7, c7, hlt, rfl, rfl, rfl, rfl, rfl, hf7.bs, ((hx.trans' hf5.ext).trans' hx6).trans' hf7.ext⟩, ?_⟩
      show l.length - ((k : Int) + 1).toNat < l.length - (k : Int).toNat
      omega
    · have hge : k = l.length := by simp at h; omega
      subst hge
      rw [List.take_length] at hB ⊢
      refine go_Hm4 (k := ?_)
      exact ⟨rfl, rfl, B, cB, rfl, hB, hx⟩
  rintro e' w5 ⟨q0, B, cB, q7, hB, hx⟩
  rw [upd_self q0, upd_self q7]
  have hfk := hfl l.length
  rw [List.take_length] at hfk
  generalize formB s l = F at *
  refine go_Hm4 (k := ?_)
  refine OW_callV Try.func18 (by kernel_rfl) rfl (hmacSum_any w5 A B cA cB key F (ha.ext hx) hca (by omega) hB (by omega)) rfl ?_
  intro w6 hx6
  refine go_Hm4 (k := ?_)
  refine OW_allocA s_agg_Tag ?_
  intro w7 g7 hb7 hg7 hl7 hx7
  have hol := hmacL_length key F
  generalize hmacL key F = out at *
  have holen : (out.map bv).length = 32 := by rw [List.length_map, hol]
  refine go_Hm4 (k := ?_)
  refine OW_storeA s_agg_Tag rfl (out.map bv) rfl holen hb7 rfl (bv_one _) ?_
  intro w8 hb8 hgr8
  have hx06 := hx.trans' hx6
  refine go_Hm4 (k := ?_)
  refine bodyE_ret1 rfl (.slice (some ⟨g7, 0, none⟩) 32 32) rfl ⟨some ⟨g7, 0, none⟩, 32, by rw [hol], ?_, below_only (hx06.trans' hx7) hgr8 (by have := hx06.size; omega) (hx06.trans' hx7).size⟩
  rw [hol]
  exact own_of_blk (by have := hx06.size; omega) hb8 (by simpa using holen) (Nat.le_refl _) (by decide) (by rw [List.take_of_length_le (by simp; omega)])
end Go.Proofs.Ytdpcahfgdpikfaa
