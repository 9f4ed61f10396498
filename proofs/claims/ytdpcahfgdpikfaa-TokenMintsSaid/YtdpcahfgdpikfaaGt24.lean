/- Several texts in one, as they stand in wip/src. -/
import Derived.Test.YtdpcahfgdpikfaaGt23
/- Walks: tokens compared, copied, made; one line within another. -/
namespace Go.Proofs.Ytdpcahfgdpikfaa
open Go Go.RowKit Go.ChangeShapes Go.WideShapes
set_option linter.unusedVariables false
set_option maxRecDepth 4000
instance : DecidableEq GD := fun a b => decidable_of_iff (a.rights = b.rights ∧ a.expiry = b.expiry ∧ a.serial = b.serial) ⟨fun h => by
  obtain ⟨a1, a2, a3⟩ := a
  obtain ⟨b1, b2, b3⟩ := b
  obtain ⟨h1, h2, h3⟩ := h
  simp only at h1 h2 h3
  rw [h1, h2, h3], fun h => by rw [h]; exact ⟨rfl, rfl, rfl⟩⟩
theorem go_Tok7 {A B : Prop} (h : Held B → A := by
  intro hEnd
  repeat (first | refine OW_neqGF rfl rfl (by assumption) (by assumption) (by assumption) ?_ | refine OW_neqGT rfl rfl (by assumption) (by assumption) (by assumption) ?_ | refine OW_eqlQF s_eqr_Tag rfl rfl (by assumption) (by assumption) (by assumption) ?_ | refine OW_eqlQT s_eqr_Tag rfl rfl (by assumption) (by assumption) ?_ | refine OW_neqQF s_eqr_Tag rfl rfl (by assumption) (by assumption) ?_ | refine OW_neqQT s_eqr_Tag rfl rfl (by assumption) (by assumption) (by assumption) ?_ | refine OW_eqlIF rfl rfl (by assumption) ?_ | refine OW_eqlIT rfl rfl (by first | assumption | rfl) ?_ | refine OW_neqIF rfl rfl (by assumption) ?_ | refine OW_neqIT rfl rfl (by assumption) ?_ | (refine OW_isLoad ?_; refine OW_loadM (by first | with_reducible exact agg_Grant | with_reducible exact s_agg_Tag | with_reducible exact agg_Token) rfl (by first | assumption | (apply_assumption; assumption)) ?_) | refine OW_idxN und_Grants el_Grant rfl rfl 0 rfl (by omega) ?_ | refine OW_sliceP h_slp_Tag rfl ?_ | refine OW_slicePOT a_slp_TagT rfl ?_ | refine OW_fieldB fldo_G0 rfl ?_ | refine OW_fieldB fldo_G1 rfl ?_ | refine OW_fieldB fldo_G2 rfl ?_ | refine OW_fieldB fldo_T0 rfl ?_ | refine OW_fieldB fldo_T1 rfl ?_ | refine OW_fieldB fldo_T2 rfl ?_ | refine OW_lenS und_Grants rfl ?_ | refine OW_idxN und_Grants el_Grant rfl rfl _ rfl (by omega) ?_ | refine OW_moveV (.int _ _) rfl ?_ | refine OW_moveV (.slice _ _ _) rfl ?_ | refine OW_moveV (.bool _) rfl ?_ | refine OW_moveV (.pointer _) rfl ?_ | refine OW_moveV (.string _) rfl ?_ | refine OW_moveV (.agg _) rfl ?_ | refine OW_moveV (.tuple _) rfl ?_ | refine OW_nil ?_ | refine thenE_normal ?_ | refine CW_seq ?_ | refine CW_region (by kernel_rfl) ?_ | refine OW_assignV (.int _ _) rfl ?_ | refine OW_assignV (.slice _ _ _) rfl ?_ | refine OW_assignV (.bool _) rfl ?_ | refine OW_assignV (.pointer _) rfl ?_ | refine OW_assignV (.string _) rfl ?_ | refine OW_assignV (.agg _) rfl ?_ | refine OW_assignV (.tuple _) rfl ?_ | refine OW_addI rfl rfl (by omega) ?_ | refine OW_subI rfl rfl (by omega) ?_ | refine OW_mulI rfl rfl (by omega) ?_ | refine OW_lss rfl rfl ?_ | refine OW_extract rfl rfl ?_ | refine OW_gtr rfl rfl ?_ | refine OW_leq rfl rfl ?_ | refine OW_geq rfl rfl ?_ | refine OW_eql rfl rfl ?_ | refine OW_neq rfl rfl ?_ | refine OW_not rfl ?_ | refine OW_pickT rfl _ rfl ?_ | refine OW_pickF rfl (.bool _) rfl ?_ | refine OW_pickB rfl rfl rfl ?_ | refine OW_move ?_ | refine OW_assign ?_ | refine OW_pass rfl ?_ | refine OW_take rfl ?_ | refine OW_lenS (by first | with_reducible exact und_bytes | with_reducible exact und_bytess) rfl ?_ | refine OW_convInt (by first | with_reducible exact und_u8 | with_reducible exact und_u64 | with_reducible exact und_int | with_reducible exact und_u32) (by first | with_reducible exact und_u8 | with_reducible exact und_u64 | with_reducible exact und_int | with_reducible exact und_u32) rfl ?_ | refine OW_add rfl rfl ?_ | refine OW_sub rfl rfl ?_ | refine OW_mul rfl rfl ?_ | refine OW_min2 rfl rfl ?_ | refine OW_max2 rfl rfl ?_ | refine OW_neg rfl ?_ | refine CW_block ?_ | refine CW_condT rfl ?_ | refine CW_condF rfl ?_ | refine CW_exit ?_ | refine CW_ret ?_ | refine CW_skip ?_ | refine LW_seq ?_ | refine LW_regC ?_ | refine LW_condC ?_ | refine LW_regF ?_ | refine LW_condF ?_ | refine FW_seq ?_ | refine FW_region (by kernel_rfl) ?_ | refine FW_block ?_ | refine FW_condT rfl ?_ | refine FW_condF rfl ?_ | refine FW_exit ?_ | refine FW_ret ?_ | refine FW_skip ?_ | refine LW_ret ?_ | refine LW_skip ?_ | refine thenE_exit ?_ | refine thenE_ret ?_ | refine inBlockE_normal ?_ | refine inBlockE_same ?_ | refine inBlockE_ret ?_ | refine inBlockE_ne (by rfl) ?_ | refine OW_eqlB (by with_reducible exact und_bool) rfl rfl ?_ | refine OW_neqB (by with_reducible exact und_bool) rfl rfl ?_ | refine OW_idxS (by with_reducible exact und_bytes) one_u8 rfl rfl _ rfl (by omega) ?_ | refine OW_idxS (by with_reducible exact und_bytess) one_bytes rfl rfl _ rfl (by omega) ?_ | refine OW_load1 (by first | with_reducible exact one_u8 | with_reducible exact one_bytes) rfl _ (by assumption) ?_ | (refine OW_isLoad ?_; refine OW_loadBk (by first | with_reducible exact s_int | with_reducible exact one_u8 | with_reducible exact one_grants) rfl (by assumption) _ (by rfl) ?_) | refine OW_load1 s_int rfl _ (by assumption) ?_)
  exact hEnd.out) (k : B) : A := h ⟨k⟩
theorem oy_Tok7 {A B : Prop} (h : Held B → A := by
  intro hEnd
  repeat (first
    | refine OY_done ?_
    | (apply OY_p _ rfl
       · intro wd
         (first | refine OW_neqGF rfl rfl (by assumption) (by assumption) (by assumption) ?_ | refine OW_neqGT rfl rfl (by assumption) (by assumption) (by assumption) ?_ | refine OW_eqlQF s_eqr_Tag rfl rfl (by assumption) (by assumption) (by assumption) ?_ | refine OW_eqlQT s_eqr_Tag rfl rfl (by assumption) (by assumption) ?_ | refine OW_neqQF s_eqr_Tag rfl rfl (by assumption) (by assumption) ?_ | refine OW_neqQT s_eqr_Tag rfl rfl (by assumption) (by assumption) (by assumption) ?_ | refine OW_eqlIF rfl rfl (by assumption) ?_ | refine OW_eqlIT rfl rfl (by first | assumption | rfl) ?_ | refine OW_neqIF rfl rfl (by assumption) ?_ | refine OW_neqIT rfl rfl (by assumption) ?_ | (refine OW_isLoad ?_; refine OW_loadM (by first | with_reducible exact agg_Grant | with_reducible exact s_agg_Tag | with_reducible exact agg_Token) rfl (by first | assumption | (apply_assumption; assumption)) ?_) | refine OW_idxN und_Grants el_Grant rfl rfl 0 rfl (by omega) ?_ | refine OW_sliceP h_slp_Tag rfl ?_ | refine OW_slicePOT a_slp_TagT rfl ?_ | refine OW_fieldB fldo_G0 rfl ?_ | refine OW_fieldB fldo_G1 rfl ?_ | refine OW_fieldB fldo_G2 rfl ?_ | refine OW_fieldB fldo_T0 rfl ?_ | refine OW_fieldB fldo_T1 rfl ?_ | refine OW_fieldB fldo_T2 rfl ?_ | refine OW_lenS und_Grants rfl ?_ | refine OW_idxN und_Grants el_Grant rfl rfl _ rfl (by omega) ?_ | refine OW_moveV (.int _ _) rfl ?_ | refine OW_moveV (.slice _ _ _) rfl ?_ | refine OW_moveV (.bool _) rfl ?_ | refine OW_moveV (.pointer _) rfl ?_ | refine OW_moveV (.string _) rfl ?_ | refine OW_moveV (.agg _) rfl ?_ | refine OW_moveV (.tuple _) rfl ?_ | refine OW_nil ?_ | refine thenE_normal ?_ | refine CW_seq ?_ | refine CW_region (by kernel_rfl) ?_ | refine OW_assignV (.int _ _) rfl ?_ | refine OW_assignV (.slice _ _ _) rfl ?_ | refine OW_assignV (.bool _) rfl ?_ | refine OW_assignV (.pointer _) rfl ?_ | refine OW_assignV (.string _) rfl ?_ | refine OW_assignV (.agg _) rfl ?_ | refine OW_assignV (.tuple _) rfl ?_ | refine OW_addI rfl rfl (by omega) ?_ | refine OW_subI rfl rfl (by omega) ?_ | refine OW_mulI rfl rfl (by omega) ?_ | refine OW_lss rfl rfl ?_ | refine OW_extract rfl rfl ?_ | refine OW_gtr rfl rfl ?_ | refine OW_leq rfl rfl ?_ | refine OW_geq rfl rfl ?_ | refine OW_eql rfl rfl ?_ | refine OW_neq rfl rfl ?_ | refine OW_not rfl ?_ | refine OW_pickT rfl _ rfl ?_ | refine OW_pickF rfl (.bool _) rfl ?_ | refine OW_pickB rfl rfl rfl ?_ | refine OW_move ?_ | refine OW_assign ?_ | refine OW_pass rfl ?_ | refine OW_take rfl ?_ | refine OW_lenS (by first | with_reducible exact und_bytes | with_reducible exact und_bytess) rfl ?_ | refine OW_convInt (by first | with_reducible exact und_u8 | with_reducible exact und_u64 | with_reducible exact und_int | with_reducible exact und_u32) (by first | with_reducible exact und_u8 | with_reducible exact und_u64 | with_reducible exact und_int | with_reducible exact und_u32) rfl ?_ | refine OW_add rfl rfl ?_ | refine OW_sub rfl rfl ?_ | refine OW_mul rfl rfl ?_ | refine OW_min2 rfl rfl ?_ | refine OW_max2 rfl rfl ?_ | refine OW_neg rfl ?_ | refine CW_block ?_ | refine CW_condT rfl ?_ | refine CW_condF rfl ?_ | refine CW_exit ?_ | refine CW_ret ?_ | refine CW_skip ?_ | refine LW_seq ?_ | refine LW_regC ?_ | refine LW_condC ?_ | refine LW_regF ?_ | refine LW_condF ?_ | refine FW_seq ?_ | refine FW_region (by kernel_rfl) ?_ | refine FW_block ?_ | refine FW_condT rfl ?_ | refine FW_condF rfl ?_ | refine FW_exit ?_ | refine FW_ret ?_ | refine FW_skip ?_ | refine LW_ret ?_ | refine LW_skip ?_ | refine thenE_exit ?_ | refine thenE_ret ?_ | refine inBlockE_normal ?_ | refine inBlockE_same ?_ | refine inBlockE_ret ?_ | refine inBlockE_ne (by rfl) ?_ | refine OW_eqlB (by with_reducible exact und_bool) rfl rfl ?_ | refine OW_neqB (by with_reducible exact und_bool) rfl rfl ?_ | refine OW_idxS (by with_reducible exact und_bytes) one_u8 rfl rfl _ rfl (by omega) ?_ | refine OW_idxS (by with_reducible exact und_bytess) one_bytes rfl rfl _ rfl (by omega) ?_ | refine OW_load1 (by first | with_reducible exact one_u8 | with_reducible exact one_bytes) rfl _ (by assumption) ?_ | (refine OW_isLoad ?_; refine OW_loadBk (by first | with_reducible exact s_int | with_reducible exact one_u8 | with_reducible exact one_grants) rfl (by assumption) _ (by rfl) ?_) | refine OW_load1 s_int rfl _ (by assumption) ?_)
         refine OW_nil ?_
         exact stay_mk _ _ _ _)
    | (apply OY_q _ rfl
       · intro wd hwd
         (first | refine OW_neqGF rfl rfl (by assumption) (by assumption) (by assumption) ?_ | refine OW_neqGT rfl rfl (by assumption) (by assumption) (by assumption) ?_ | refine OW_eqlQF s_eqr_Tag rfl rfl (by assumption) (by assumption) (by assumption) ?_ | refine OW_eqlQT s_eqr_Tag rfl rfl (by assumption) (by assumption) ?_ | refine OW_neqQF s_eqr_Tag rfl rfl (by assumption) (by assumption) ?_ | refine OW_neqQT s_eqr_Tag rfl rfl (by assumption) (by assumption) (by assumption) ?_ | refine OW_eqlIF rfl rfl (by assumption) ?_ | refine OW_eqlIT rfl rfl (by first | assumption | rfl) ?_ | refine OW_neqIF rfl rfl (by assumption) ?_ | refine OW_neqIT rfl rfl (by assumption) ?_ | (refine OW_isLoad ?_; refine OW_loadM (by first | with_reducible exact agg_Grant | with_reducible exact s_agg_Tag | with_reducible exact agg_Token) rfl (by first | assumption | (apply_assumption; assumption)) ?_) | refine OW_idxN und_Grants el_Grant rfl rfl 0 rfl (by omega) ?_ | refine OW_sliceP h_slp_Tag rfl ?_ | refine OW_slicePOT a_slp_TagT rfl ?_ | refine OW_fieldB fldo_G0 rfl ?_ | refine OW_fieldB fldo_G1 rfl ?_ | refine OW_fieldB fldo_G2 rfl ?_ | refine OW_fieldB fldo_T0 rfl ?_ | refine OW_fieldB fldo_T1 rfl ?_ | refine OW_fieldB fldo_T2 rfl ?_ | refine OW_lenS und_Grants rfl ?_ | refine OW_idxN und_Grants el_Grant rfl rfl _ rfl (by omega) ?_ | refine OW_moveV (.int _ _) rfl ?_ | refine OW_moveV (.slice _ _ _) rfl ?_ | refine OW_moveV (.bool _) rfl ?_ | refine OW_moveV (.pointer _) rfl ?_ | refine OW_moveV (.string _) rfl ?_ | refine OW_moveV (.agg _) rfl ?_ | refine OW_moveV (.tuple _) rfl ?_ | refine OW_nil ?_ | refine thenE_normal ?_ | refine CW_seq ?_ | refine CW_region (by kernel_rfl) ?_ | refine OW_assignV (.int _ _) rfl ?_ | refine OW_assignV (.slice _ _ _) rfl ?_ | refine OW_assignV (.bool _) rfl ?_ | refine OW_assignV (.pointer _) rfl ?_ | refine OW_assignV (.string _) rfl ?_ | refine OW_assignV (.agg _) rfl ?_ | refine OW_assignV (.tuple _) rfl ?_ | refine OW_addI rfl rfl (by omega) ?_ | refine OW_subI rfl rfl (by omega) ?_ | refine OW_mulI rfl rfl (by omega) ?_ | refine OW_lss rfl rfl ?_ | refine OW_extract rfl rfl ?_ | refine OW_gtr rfl rfl ?_ | refine OW_leq rfl rfl ?_ | refine OW_geq rfl rfl ?_ | refine OW_eql rfl rfl ?_ | refine OW_neq rfl rfl ?_ | refine OW_not rfl ?_ | refine OW_pickT rfl _ rfl ?_ | refine OW_pickF rfl (.bool _) rfl ?_ | refine OW_pickB rfl rfl rfl ?_ | refine OW_move ?_ | refine OW_assign ?_ | refine OW_pass rfl ?_ | refine OW_take rfl ?_ | refine OW_lenS (by first | with_reducible exact und_bytes | with_reducible exact und_bytess) rfl ?_ | refine OW_convInt (by first | with_reducible exact und_u8 | with_reducible exact und_u64 | with_reducible exact und_int | with_reducible exact und_u32) (by first | with_reducible exact und_u8 | with_reducible exact und_u64 | with_reducible exact und_int | with_reducible exact und_u32) rfl ?_ | refine OW_add rfl rfl ?_ | refine OW_sub rfl rfl ?_ | refine OW_mul rfl rfl ?_ | refine OW_min2 rfl rfl ?_ | refine OW_max2 rfl rfl ?_ | refine OW_neg rfl ?_ | refine CW_block ?_ | refine CW_condT rfl ?_ | refine CW_condF rfl ?_ | refine CW_exit ?_ | refine CW_ret ?_ | refine CW_skip ?_ | refine LW_seq ?_ | refine LW_regC ?_ | refine LW_condC ?_ | refine LW_regF ?_ | refine LW_condF ?_ | refine FW_seq ?_ | refine FW_region (by kernel_rfl) ?_ | refine FW_block ?_ | refine FW_condT rfl ?_ | refine FW_condF rfl ?_ | refine FW_exit ?_ | refine FW_ret ?_ | refine FW_skip ?_ | refine LW_ret ?_ | refine LW_skip ?_ | refine thenE_exit ?_ | refine thenE_ret ?_ | refine inBlockE_normal ?_ | refine inBlockE_same ?_ | refine inBlockE_ret ?_ | refine inBlockE_ne (by rfl) ?_ | refine OW_eqlB (by with_reducible exact und_bool) rfl rfl ?_ | refine OW_neqB (by with_reducible exact und_bool) rfl rfl ?_ | refine OW_idxS (by with_reducible exact und_bytes) one_u8 rfl rfl _ rfl (by omega) ?_ | refine OW_idxS (by with_reducible exact und_bytess) one_bytes rfl rfl _ rfl (by omega) ?_ | refine OW_load1 (by first | with_reducible exact one_u8 | with_reducible exact one_bytes) rfl _ (by assumption) ?_ | (refine OW_isLoad ?_; refine OW_loadBk (by first | with_reducible exact s_int | with_reducible exact one_u8 | with_reducible exact one_grants) rfl (by assumption) _ (by rfl) ?_) | refine OW_load1 s_int rfl _ (by assumption) ?_ | (refine OW_isLoad ?_; refine OW_loadBk (by first | with_reducible exact one_u8 | with_reducible exact one_bytes | with_reducible exact one_bool | with_reducible exact one_int | with_reducible exact one_errno | with_reducible exact one_u32 | with_reducible exact one_u64 | with_reducible exact one_string | with_reducible exact s_int | with_reducible exact one_u8 | with_reducible exact one_grants) rfl (by apply_assumption; assumption) _ (by first | assumption | rfl) ?_) | refine OW_load1 (by first | with_reducible exact one_u8 | with_reducible exact one_bytes | with_reducible exact one_bool | with_reducible exact one_int | with_reducible exact one_errno | with_reducible exact one_u32 | with_reducible exact one_u64 | with_reducible exact one_string | with_reducible exact s_int | with_reducible exact one_u8 | with_reducible exact one_grants) rfl _ (by apply_assumption; assumption) ?_)
         refine OW_nil ?_
         exact stay_mk _ _ _ _)
    | refine OY_ppass rfl rfl ?_
    | refine OY_qpass rfl rfl ?_
    | (apply OY_ptake _ rfl rfl
       · intro wd
         (first | refine OW_neqGF rfl rfl (by assumption) (by assumption) (by assumption) ?_ | refine OW_neqGT rfl rfl (by assumption) (by assumption) (by assumption) ?_ | refine OW_eqlQF s_eqr_Tag rfl rfl (by assumption) (by assumption) (by assumption) ?_ | refine OW_eqlQT s_eqr_Tag rfl rfl (by assumption) (by assumption) ?_ | refine OW_neqQF s_eqr_Tag rfl rfl (by assumption) (by assumption) ?_ | refine OW_neqQT s_eqr_Tag rfl rfl (by assumption) (by assumption) (by assumption) ?_ | refine OW_eqlIF rfl rfl (by assumption) ?_ | refine OW_eqlIT rfl rfl (by first | assumption | rfl) ?_ | refine OW_neqIF rfl rfl (by assumption) ?_ | refine OW_neqIT rfl rfl (by assumption) ?_ | (refine OW_isLoad ?_; refine OW_loadM (by first | with_reducible exact agg_Grant | with_reducible exact s_agg_Tag | with_reducible exact agg_Token) rfl (by first | assumption | (apply_assumption; assumption)) ?_) | refine OW_idxN und_Grants el_Grant rfl rfl 0 rfl (by omega) ?_ | refine OW_sliceP h_slp_Tag rfl ?_ | refine OW_slicePOT a_slp_TagT rfl ?_ | refine OW_fieldB fldo_G0 rfl ?_ | refine OW_fieldB fldo_G1 rfl ?_ | refine OW_fieldB fldo_G2 rfl ?_ | refine OW_fieldB fldo_T0 rfl ?_ | refine OW_fieldB fldo_T1 rfl ?_ | refine OW_fieldB fldo_T2 rfl ?_ | refine OW_lenS und_Grants rfl ?_ | refine OW_idxN und_Grants el_Grant rfl rfl _ rfl (by omega) ?_ | refine OW_moveV (.int _ _) rfl ?_ | refine OW_moveV (.slice _ _ _) rfl ?_ | refine OW_moveV (.bool _) rfl ?_ | refine OW_moveV (.pointer _) rfl ?_ | refine OW_moveV (.string _) rfl ?_ | refine OW_moveV (.agg _) rfl ?_ | refine OW_moveV (.tuple _) rfl ?_ | refine OW_nil ?_ | refine thenE_normal ?_ | refine CW_seq ?_ | refine CW_region (by kernel_rfl) ?_ | refine OW_assignV (.int _ _) rfl ?_ | refine OW_assignV (.slice _ _ _) rfl ?_ | refine OW_assignV (.bool _) rfl ?_ | refine OW_assignV (.pointer _) rfl ?_ | refine OW_assignV (.string _) rfl ?_ | refine OW_assignV (.agg _) rfl ?_ | refine OW_assignV (.tuple _) rfl ?_ | refine OW_addI rfl rfl (by omega) ?_ | refine OW_subI rfl rfl (by omega) ?_ | refine OW_mulI rfl rfl (by omega) ?_ | refine OW_lss rfl rfl ?_ | refine OW_extract rfl rfl ?_ | refine OW_gtr rfl rfl ?_ | refine OW_leq rfl rfl ?_ | refine OW_geq rfl rfl ?_ | refine OW_eql rfl rfl ?_ | refine OW_neq rfl rfl ?_ | refine OW_not rfl ?_ | refine OW_pickT rfl _ rfl ?_ | refine OW_pickF rfl (.bool _) rfl ?_ | refine OW_pickB rfl rfl rfl ?_ | refine OW_move ?_ | refine OW_assign ?_ | refine OW_pass rfl ?_ | refine OW_take rfl ?_ | refine OW_lenS (by first | with_reducible exact und_bytes | with_reducible exact und_bytess) rfl ?_ | refine OW_convInt (by first | with_reducible exact und_u8 | with_reducible exact und_u64 | with_reducible exact und_int | with_reducible exact und_u32) (by first | with_reducible exact und_u8 | with_reducible exact und_u64 | with_reducible exact und_int | with_reducible exact und_u32) rfl ?_ | refine OW_add rfl rfl ?_ | refine OW_sub rfl rfl ?_ | refine OW_mul rfl rfl ?_ | refine OW_min2 rfl rfl ?_ | refine OW_max2 rfl rfl ?_ | refine OW_neg rfl ?_ | refine CW_block ?_ | refine CW_condT rfl ?_ | refine CW_condF rfl ?_ | refine CW_exit ?_ | refine CW_ret ?_ | refine CW_skip ?_ | refine LW_seq ?_ | refine LW_regC ?_ | refine LW_condC ?_ | refine LW_regF ?_ | refine LW_condF ?_ | refine FW_seq ?_ | refine FW_region (by kernel_rfl) ?_ | refine FW_block ?_ | refine FW_condT rfl ?_ | refine FW_condF rfl ?_ | refine FW_exit ?_ | refine FW_ret ?_ | refine FW_skip ?_ | refine LW_ret ?_ | refine LW_skip ?_ | refine thenE_exit ?_ | refine thenE_ret ?_ | refine inBlockE_normal ?_ | refine inBlockE_same ?_ | refine inBlockE_ret ?_ | refine inBlockE_ne (by rfl) ?_ | refine OW_eqlB (by with_reducible exact und_bool) rfl rfl ?_ | refine OW_neqB (by with_reducible exact und_bool) rfl rfl ?_ | refine OW_idxS (by with_reducible exact und_bytes) one_u8 rfl rfl _ rfl (by omega) ?_ | refine OW_idxS (by with_reducible exact und_bytess) one_bytes rfl rfl _ rfl (by omega) ?_ | refine OW_load1 (by first | with_reducible exact one_u8 | with_reducible exact one_bytes) rfl _ (by assumption) ?_ | (refine OW_isLoad ?_; refine OW_loadBk (by first | with_reducible exact s_int | with_reducible exact one_u8 | with_reducible exact one_grants) rfl (by assumption) _ (by rfl) ?_) | refine OW_load1 s_int rfl _ (by assumption) ?_)
         refine OW_nil ?_
         exact stay_mk _ _ _ _)
    | (apply OY_qtake _ rfl rfl
       · intro wd hwd
         (first | refine OW_neqGF rfl rfl (by assumption) (by assumption) (by assumption) ?_ | refine OW_neqGT rfl rfl (by assumption) (by assumption) (by assumption) ?_ | refine OW_eqlQF s_eqr_Tag rfl rfl (by assumption) (by assumption) (by assumption) ?_ | refine OW_eqlQT s_eqr_Tag rfl rfl (by assumption) (by assumption) ?_ | refine OW_neqQF s_eqr_Tag rfl rfl (by assumption) (by assumption) ?_ | refine OW_neqQT s_eqr_Tag rfl rfl (by assumption) (by assumption) (by assumption) ?_ | refine OW_eqlIF rfl rfl (by assumption) ?_ | refine OW_eqlIT rfl rfl (by first | assumption | rfl) ?_ | refine OW_neqIF rfl rfl (by assumption) ?_ | refine OW_neqIT rfl rfl (by assumption) ?_ | (refine OW_isLoad ?_; refine OW_loadM (by first | with_reducible exact agg_Grant | with_reducible exact s_agg_Tag | with_reducible exact agg_Token) rfl (by first | assumption | (apply_assumption; assumption)) ?_) | refine OW_idxN und_Grants el_Grant rfl rfl 0 rfl (by omega) ?_ | refine OW_sliceP h_slp_Tag rfl ?_ | refine OW_slicePOT a_slp_TagT rfl ?_ | refine OW_fieldB fldo_G0 rfl ?_ | refine OW_fieldB fldo_G1 rfl ?_ | refine OW_fieldB fldo_G2 rfl ?_ | refine OW_fieldB fldo_T0 rfl ?_ | refine OW_fieldB fldo_T1 rfl ?_ | refine OW_fieldB fldo_T2 rfl ?_ | refine OW_lenS und_Grants rfl ?_ | refine OW_idxN und_Grants el_Grant rfl rfl _ rfl (by omega) ?_ | refine OW_moveV (.int _ _) rfl ?_ | refine OW_moveV (.slice _ _ _) rfl ?_ | refine OW_moveV (.bool _) rfl ?_ | refine OW_moveV (.pointer _) rfl ?_ | refine OW_moveV (.string _) rfl ?_ | refine OW_moveV (.agg _) rfl ?_ | refine OW_moveV (.tuple _) rfl ?_ | refine OW_nil ?_ | refine thenE_normal ?_ | refine CW_seq ?_ | refine CW_region (by kernel_rfl) ?_ | refine OW_assignV (.int _ _) rfl ?_ | refine OW_assignV (.slice _ _ _) rfl ?_ | refine OW_assignV (.bool _) rfl ?_ | refine OW_assignV (.pointer _) rfl ?_ | refine OW_assignV (.string _) rfl ?_ | refine OW_assignV (.agg _) rfl ?_ | refine OW_assignV (.tuple _) rfl ?_ | refine OW_addI rfl rfl (by omega) ?_ | refine OW_subI rfl rfl (by omega) ?_ | refine OW_mulI rfl rfl (by omega) ?_ | refine OW_lss rfl rfl ?_ | refine OW_extract rfl rfl ?_ | refine OW_gtr rfl rfl ?_ | refine OW_leq rfl rfl ?_ | refine OW_geq rfl rfl ?_ | refine OW_eql rfl rfl ?_ | refine OW_neq rfl rfl ?_ | refine OW_not rfl ?_ | refine OW_pickT rfl _ rfl ?_ | refine OW_pickF rfl (.bool _) rfl ?_ | refine OW_pickB rfl rfl rfl ?_ | refine OW_move ?_ | refine OW_assign ?_ | refine OW_pass rfl ?_ | refine OW_take rfl ?_ | refine OW_lenS (by first | with_reducible exact und_bytes | with_reducible exact und_bytess) rfl ?_ | refine OW_convInt (by first | with_reducible exact und_u8 | with_reducible exact und_u64 | with_reducible exact und_int | with_reducible exact und_u32) (by first | with_reducible exact und_u8 | with_reducible exact und_u64 | with_reducible exact und_int | with_reducible exact und_u32) rfl ?_ | refine OW_add rfl rfl ?_ | refine OW_sub rfl rfl ?_ | refine OW_mul rfl rfl ?_ | refine OW_min2 rfl rfl ?_ | refine OW_max2 rfl rfl ?_ | refine OW_neg rfl ?_ | refine CW_block ?_ | refine CW_condT rfl ?_ | refine CW_condF rfl ?_ | refine CW_exit ?_ | refine CW_ret ?_ | refine CW_skip ?_ | refine LW_seq ?_ | refine LW_regC ?_ | refine LW_condC ?_ | refine LW_regF ?_ | refine LW_condF ?_ | refine FW_seq ?_ | refine FW_region (by kernel_rfl) ?_ | refine FW_block ?_ | refine FW_condT rfl ?_ | refine FW_condF rfl ?_ | refine FW_exit ?_ | refine FW_ret ?_ | refine FW_skip ?_ | refine LW_ret ?_ | refine LW_skip ?_ | refine thenE_exit ?_ | refine thenE_ret ?_ | refine inBlockE_normal ?_ | refine inBlockE_same ?_ | refine inBlockE_ret ?_ | refine inBlockE_ne (by rfl) ?_ | refine OW_eqlB (by with_reducible exact und_bool) rfl rfl ?_ | refine OW_neqB (by with_reducible exact und_bool) rfl rfl ?_ | refine OW_idxS (by with_reducible exact und_bytes) one_u8 rfl rfl _ rfl (by omega) ?_ | refine OW_idxS (by with_reducible exact und_bytess) one_bytes rfl rfl _ rfl (by omega) ?_ | refine OW_load1 (by first | with_reducible exact one_u8 | with_reducible exact one_bytes) rfl _ (by assumption) ?_ | (refine OW_isLoad ?_; refine OW_loadBk (by first | with_reducible exact s_int | with_reducible exact one_u8 | with_reducible exact one_grants) rfl (by assumption) _ (by rfl) ?_) | refine OW_load1 s_int rfl _ (by assumption) ?_ | (refine OW_isLoad ?_; refine OW_loadBk (by first | with_reducible exact one_u8 | with_reducible exact one_bytes | with_reducible exact one_bool | with_reducible exact one_int | with_reducible exact one_errno | with_reducible exact one_u32 | with_reducible exact one_u64 | with_reducible exact one_string | with_reducible exact s_int | with_reducible exact one_u8 | with_reducible exact one_grants) rfl (by apply_assumption; assumption) _ (by first | assumption | rfl) ?_) | refine OW_load1 (by first | with_reducible exact one_u8 | with_reducible exact one_bytes | with_reducible exact one_bool | with_reducible exact one_int | with_reducible exact one_errno | with_reducible exact one_u32 | with_reducible exact one_u64 | with_reducible exact one_string | with_reducible exact s_int | with_reducible exact one_u8 | with_reducible exact one_grants) rfl _ (by apply_assumption; assumption) ?_)
         refine OW_nil ?_
         exact stay_mk _ _ _ _)
    | refine OY_a (actY_of rfl ?_)
    | refine OY_d (actY_of rfl ?_)
    | refine OY_a (actY_pass rfl rfl ?_)
    | refine OY_d (actY_pass rfl rfl ?_)
    | refine OY_a (actY_take rfl rfl ?_)
    | refine OY_d (actY_take rfl rfl ?_))
  exact hEnd.out) (k : B) : A := h ⟨k⟩
theorem tk_eq {a b : TK} (h1 : a.ten = b.ten) (h2 : a.tag = b.tag) (h3 : a.line = b.line) : a = b := by
  obtain ⟨a1, a2, a3⟩ := a
  obtain ⟨b1, b2, b3⟩ := b
  simp only at h1 h2 h3
  rw [h1, h2, h3]
instance : DecidableEq TK := fun a b => decidable_of_iff (a.ten = b.ten ∧ a.tag = b.tag ∧ a.line = b.line) ⟨fun h => tk_eq h.1 h.2.1 h.2.2, fun h => by rw [h]; exact ⟨rfl, rfl, rfl⟩⟩
section
variable {ops : Array Oper} {Q : Exit → (Nat → Value) → World → Prop} {rest : List Oper} {e : Nat → Value} {w : World} {d : Tmp} {ty : TypeId} {pos : String} {aft : Array Edge}
theorem OW_neqGF {x y : Operand} {t' : TypeId} {a b : GD} (hx : ev e x = .agg (gcells a).toArray) (hy : ev e y = .agg (gcells b).toArray) (ha : GOk a) (hb : GOk b) (hab : a = b) (h : OW Try.prog ops Q rest (upd e d (.bool false)) w) : OW Try.prog ops Q (⟨some d, .binOp .neq 49 x y t', ty, pos, aft, none⟩ :: rest) e w :=
  OW_neqG hx hy ha hb false (by simp [hab]) h
theorem OW_neqGT {x y : Operand} {t' : TypeId} {a b : GD} (hx : ev e x = .agg (gcells a).toArray) (hy : ev e y = .agg (gcells b).toArray) (ha : GOk a) (hb : GOk b) (hab : ¬ a = b) (h : OW Try.prog ops Q rest (upd e d (.bool true)) w) : OW Try.prog ops Q (⟨some d, .binOp .neq 49 x y t', ty, pos, aft, none⟩ :: rest) e w :=
  OW_neqG hx hy ha hb true (by simp [hab]) h
theorem OW_eqlQT {P : Program} {x y : Operand} {t t' : TypeId} {n : Nat} (hq : EqR P t n) {a b : List UInt8} (hx : ev e x = .agg (a.map bv).toArray) (hy : ev e y = .agg (b.map bv).toArray) (ha : a.length = n) (hab : a = b)
    (h : OW P ops Q rest (upd e d (.bool true)) w) : OW P ops Q (⟨some d, .binOp .eql t x y t', ty, pos, aft, none⟩ :: rest) e w := by
  refine OW_eqlR hq hx hy ha (by rw [← hab]; exact ha) ?_
  rw [decide_eq_true hab]
  exact h
theorem OW_eqlQF {P : Program} {x y : Operand} {t t' : TypeId} {n : Nat} (hq : EqR P t n) {a b : List UInt8} (hx : ev e x = .agg (a.map bv).toArray) (hy : ev e y = .agg (b.map bv).toArray) (ha : a.length = n) (hb : b.length = n) (hab : ¬ a = b)
    (h : OW P ops Q rest (upd e d (.bool false)) w) : OW P ops Q (⟨some d, .binOp .eql t x y t', ty, pos, aft, none⟩ :: rest) e w := by
  refine OW_eqlR hq hx hy ha hb ?_
  rw [decide_eq_false hab]
  exact h
end
theorem take_ext {l m : List GD} {k : Nat} (hk : l.take k = m.take k) (hl : k < l.length) (hm : k < m.length) (h : l[k] = m[k]) : l.take (k + 1) = m.take (k + 1) := by
  rw [List.take_succ_eq_append_getElem hl, List.take_succ_eq_append_getElem hm, hk, h]
theorem get_ne {l m : List GD} {k : Nat} (hl : k < l.length) (hm : k < m.length) (h : ¬ l[k] = m[k]) : ¬ l = m := fun hh => by
  subst hh
  exact h rfl
set_option maxHeartbeats 8000000 in
theorem gdEqual_any (w : World) (A B : Option Addr) (c d : Nat) (l m : List GD) (hA : GRd w A l) (hB : GRd w B m) (gl : ∀ x ∈ l, GOk x) (gm : ∀ x ∈ m, GOk x) (hn : l.length ≤ 1000000) : Calls Try.prog 91 #[.slice A l.length c, .slice B m.length d] w (RetV w (.bool (decide (l = m)))) := by
  refine calls_of_CW Try.func91 rfl (by simp [Try.ntmps91]) ?_
  rw [Try.ntmps91]
  by_cases hlm : l.length = m.length
  rotate_left 1
  · have hne : ¬ (l.length : Int) = (m.length : Int) := by omega
    rw [decide_eq_false (fun h : l = m => hlm (by rw [h]))]
    refine go_Tok7 (k := ?_)
    exact bodyE_ret1 rfl (.bool false) rfl ⟨rfl, Ext.rfl' _⟩
  have heq : (l.length : Int) = (m.length : Int) := by omega
  refine go_Tok7 (k := ?_)
  refine CW_loop (fun e' w' => ∃ k : Nat, k ≤ l.length ∧ l.take k = m.take k ∧ e' 0 = .slice A l.length c ∧ e' 1 = .slice B m.length d ∧ e' 12 = .int .i64 l.length ∧ e' 13 = .int .i64 k ∧ Ext w w') (fun e' _ => l.length - (intOf (e' 13)).toNat) ⟨0, Nat.zero_le _, rfl, rfl, rfl, rfl, rfl, Ext.rfl' _⟩ ?_
  rintro e' w2 ⟨k, hk, htk, q0, q1, q12, q13, hx2⟩
  rw [upd_self q0, upd_self q1, upd_self q12, upd_self q13]
  clear q0 q1 q12 q13
  refine go_Tok7 (k := ?_)
  refine CW_cond _ rfl (fun hh => ?_) (fun hh => ?_)
  · have hlt : k < l.length := by have := of_decide_eq_true hh; omega
    clear hh
    have hltm : k < m.length := by omega
    obtain ⟨ad, hA1, hat⟩ := (hA.ext hx2).at_ hlt
    obtain ⟨bd, hB1, hbt⟩ := (hB.ext hx2).at_ hltm
    have hsucc := fun h => take_ext htk hlt hltm h
    have hno := fun h => get_ne hlt hltm h
    have ga := gl _ (List.getElem_mem hlt)
    have gb := gm _ (List.getElem_mem hltm)
    generalize l[k] = a at *
    generalize m[k] = b at *
    subst hA1; subst hB1
    refine go_Tok7 (k := ?_)
    obtain ⟨C, hC⟩ : ∃ C : World → Prop, C = fun v => Ext w2 v := ⟨_, rfl⟩
    have yA : ∀ v, C v → AtM v (ad.add (k * 3)) (gcells a) 3 := by rw [hC]; exact fun v hv => gAt (At.ext hat hv)
    have yB : ∀ v, C v → AtM v (bd.add (k * 3)) (gcells b) 3 := by rw [hC]; exact fun v hv => gAt (At.ext hbt hv)
    by_cases hab : a = b
    · refine CW_tree2 [3, 7] (.p 0 (.p 1 (.p 2 (.q 3 (.p 4 (.p 5 (.p 6 (.q 7 (.p 8 .done))))))))) (C) (by kernel_rfl) (by kernel_rfl) (by kernel_rfl) ?_ ?_
      · exact inE hC
      intro w3 hx3 h_C
      refine oy_Tok7 (k := ?_)
      refine go_Tok7 (k := ?_)
      refine ⟨⟨k + 1, hlt, hsucc hab, rfl, rfl, rfl, rfl, hx2.trans' hx3⟩, ?_⟩
      show l.length - ((k : Int) + 1).toNat < l.length - (k : Int).toNat
      omega
    · rw [decide_eq_false (hno hab)]
      refine CW_tree2 [3, 7] (.p 0 (.p 1 (.p 2 (.q 3 (.p 4 (.p 5 (.p 6 (.q 7 (.p 8 .done))))))))) (C) (by kernel_rfl) (by kernel_rfl) (by kernel_rfl) ?_ ?_
      · exact inE hC
      intro w3 hx3 h_C
      refine oy_Tok7 (k := ?_)
      refine go_Tok7 (k := ?_)
      exact bodyE_ret1 rfl (.bool false) rfl ⟨rfl, hx2.trans' hx3⟩
  · have hge : k = l.length := by have := of_decide_eq_false hh; omega
    have hall : l = m := by
      rw [hge, List.take_length, hlm, List.take_length] at htk
      exact htk
    rw [decide_eq_true hall]
    refine go_Tok7 (k := ?_)
    exact bodyE_ret1 rfl (.bool true) rfl ⟨rfl, hx2⟩
set_option maxHeartbeats 8000000 in
theorem tokSame_any (w : World) (A B : Option Addr) (c d : Nat) (t u : TK) (hA : GRd w A t.line) (hB : GRd w B u.line) (gl : ∀ x ∈ t.line, GOk x) (gm : ∀ x ∈ u.line, GOk x) (hn : t.line.length ≤ 1000000) (ht : t.tag.length = 32) (hu : u.tag.length = 32) :
    Calls Try.prog 48 #[.agg (tcells t (.slice A t.line.length c)).toArray, .agg (tcells u (.slice B u.line.length d)).toArray] w (RetV w (.bool (decide (t = u)))) := by
  refine calls_of_CW Try.func48 rfl (by simp [Try.ntmps48]) ?_
  rw [Try.ntmps48]
  refine go_Tok7 (k := ?_)
  refine OW_box _ rfl ?_
  intro w1 g2 hb2 hg2 hlt2 hx1
  have hb2 : Blk w1 g2 45 (tcells t (.slice A t.line.length c)).toArray := hb2
  refine go_Tok7 (k := ?_)
  refine OW_box _ rfl ?_
  intro w2 g3 hb3 hg3 hlt3 hx2
  have hb3 : Blk w2 g3 45 (tcells u (.slice B u.line.length d)).toArray := hb3
  replace hb2 := hb2.ext hx2
  have hx02 := hx1.trans' hx2
  have ta := tag_inM hb2 ht
  have tb := tag_inM hb3 hu
  by_cases h1 : t.ten = u.ten
  rotate_left 1
  · rw [decide_eq_false (fun h : t = u => h1 (by rw [h]))]
    refine go_Tok7 (k := ?_)
    exact bodyE_ret1 rfl (.bool false) rfl ⟨rfl, hx02⟩
  by_cases h2 : t.tag = u.tag
  rotate_left 1
  · rw [decide_eq_false (fun h : t = u => h2 (by rw [h]))]
    refine go_Tok7 (k := ?_)
    exact bodyE_ret1 rfl (.bool false) rfl ⟨rfl, hx02⟩
  refine go_Tok7 (k := ?_)
  refine OW_callV Try.func91 (by kernel_rfl) rfl (gdEqual_any w2 A B c d t.line u.line (hA.ext hx02) (hB.ext hx02) gl gm hn) rfl ?_
  intro w3 hx3
  rw [show decide (t = u) = decide (t.line = u.line) from decide_eq_decide.2 ⟨fun h => by rw [h], fun h => tk_eq h1 h2 h⟩]
  refine go_Tok7 (k := ?_)
  exact bodyE_ret1 rfl (.bool _) rfl ⟨rfl, hx02.trans' hx3⟩
set_option maxHeartbeats 8000000 in
theorem refTSame_any (w : World) (A B : Option Addr) (c d : Nat) (t u : TK) (hA : GRd w A t.line) (hB : GRd w B u.line) (gl : ∀ x ∈ t.line, GOk x) (gm : ∀ x ∈ u.line, GOk x) (hn : t.line.length ≤ 1000000) (ht : t.tag.length = 32) (hu : u.tag.length = 32) :
    Calls Try.prog 31 #[.agg (tcells t (.slice A t.line.length c)).toArray, .agg (tcells u (.slice B u.line.length d)).toArray] w (RetV w (.bool (decide (t = u)))) := by
  refine calls_of_CW Try.func31 rfl (by simp [Try.ntmps31]) ?_
  rw [Try.ntmps31]
  refine go_Tok7 (k := ?_)
  refine OW_box _ rfl ?_
  intro w1 g2 hb2 hg2 hlt2 hx1
  have hb2 : Blk w1 g2 45 (tcells t (.slice A t.line.length c)).toArray := hb2
  refine go_Tok7 (k := ?_)
  refine OW_box _ rfl ?_
  intro w2 g3 hb3 hg3 hlt3 hx2
  have hb3 : Blk w2 g3 45 (tcells u (.slice B u.line.length d)).toArray := hb3
  replace hb2 := hb2.ext hx2
  have hx02 := hx1.trans' hx2
  have ta := tag_inM hb2 ht
  have tb := tag_inM hb3 hu
  by_cases h1 : t.ten = u.ten
  rotate_left 1
  · rw [decide_eq_false (fun h : t = u => h1 (by rw [h]))]
    refine go_Tok7 (k := ?_)
    exact bodyE_ret1 rfl (.bool false) rfl ⟨rfl, hx02⟩
  by_cases h2 : t.tag = u.tag
  rotate_left 1
  · rw [decide_eq_false (fun h : t = u => h2 (by rw [h]))]
    refine go_Tok7 (k := ?_)
    exact bodyE_ret1 rfl (.bool false) rfl ⟨rfl, hx02⟩
  by_cases hlm : t.line.length = u.line.length
  rotate_left 1
  · have hne : ¬ (t.line.length : Int) = (u.line.length : Int) := by omega
    rw [decide_eq_false (fun h : t = u => hlm (by rw [h]))]
    refine go_Tok7 (k := ?_)
    exact bodyE_ret1 rfl (.bool false) rfl ⟨rfl, hx02⟩
  have heq : (t.line.length : Int) = (u.line.length : Int) := by omega
  rw [show decide (t = u) = decide (t.line = u.line) from decide_eq_decide.2 ⟨fun h => by rw [h], fun h => tk_eq h1 h2 h⟩]
  refine go_Tok7 (k := ?_)
  clear ta tb
  refine CW_loop (fun e' w' => ∃ k : Nat, k ≤ t.line.length ∧ t.line.take k = u.line.take k ∧ e' 2 = .pointer (some ⟨g2, 0, none⟩) ∧ e' 3 = .pointer (some ⟨g3, 0, none⟩) ∧ e' 5 = .int .i64 k ∧ Ext w2 w') (fun e' _ => t.line.length - (intOf (e' 5)).toNat) ⟨0, Nat.zero_le _, rfl, rfl, rfl, rfl, Ext.rfl' _⟩ ?_
  rintro e' w3 ⟨k, hk, htk, q2, q3, q5, hx3⟩
  rw [upd_self q2, upd_self q3, upd_self q5]
  clear q2 q3 q5
  have hb2' := hb2.ext hx3
  have hb3' := hb3.ext hx3
  clear hb2 hb3
  have hx03 := hx02.trans' hx3
  refine go_Tok7 (k := ?_)
  refine CW_cond _ rfl (fun hh => ?_) (fun hh => ?_)
  · have hlt : k < t.line.length := by have := of_decide_eq_true hh; omega
    clear hh
    have hltm : k < u.line.length := by omega
    obtain ⟨ad, hA1, hat⟩ := (hA.ext hx03).at_ hlt
    obtain ⟨bd, hB1, hbt⟩ := (hB.ext hx03).at_ hltm
    have hsucc := fun h => take_ext htk hlt hltm h
    have hno := fun h => get_ne hlt hltm h
    have ga := gl _ (List.getElem_mem hlt)
    have gb := gm _ (List.getElem_mem hltm)
    generalize t.line[k] = a at *
    generalize u.line[k] = b at *
    subst hA1; subst hB1
    refine go_Tok7 (k := ?_)
    obtain ⟨C, hC⟩ : ∃ C : World → Prop, C = fun v => Ext w3 v := ⟨_, rfl⟩
    have y2 := blkE hC hb2'
    have y3 := blkE hC hb3'
    have yA : ∀ v, C v → AtM v (ad.add (k * 3)) (gcells a) 3 := by rw [hC]; exact fun v hv => gAt (At.ext hat hv)
    have yB : ∀ v, C v → AtM v (bd.add (k * 3)) (gcells b) 3 := by rw [hC]; exact fun v hv => gAt (At.ext hbt hv)
    by_cases hab : a = b
    · refine CW_tree2 [1, 4, 6, 9] (.p 0 (.q 1 (.p 2 (.p 3 (.q 4 (.p 5 (.q 6 (.p 7 (.p 8 (.q 9 (.p 10 .done))))))))))) (C) (by kernel_rfl) (by kernel_rfl) (by kernel_rfl) ?_ ?_
      · exact inE hC
      intro w4 hx4 h_C
      refine oy_Tok7 (k := ?_)
      refine go_Tok7 (k := ?_)
      refine ⟨⟨k + 1, hlt, hsucc hab, rfl, rfl, rfl, hx3.trans' hx4⟩, ?_⟩
      show t.line.length - ((k : Int) + 1).toNat < t.line.length - (k : Int).toNat
      omega
    · rw [decide_eq_false (hno hab)]
      refine CW_tree2 [1, 4, 6, 9] (.p 0 (.q 1 (.p 2 (.p 3 (.q 4 (.p 5 (.q 6 (.p 7 (.p 8 (.q 9 (.p 10 .done))))))))))) (C) (by kernel_rfl) (by kernel_rfl) (by kernel_rfl) ?_ ?_
      · exact inE hC
      intro w4 hx4 h_C
      refine oy_Tok7 (k := ?_)
      refine go_Tok7 (k := ?_)
      exact bodyE_ret1 rfl (.bool false) rfl ⟨rfl, hx03.trans' hx4⟩
  · have hge : k = t.line.length := by have := of_decide_eq_false hh; omega
    have hall : t.line = u.line := by
      rw [hge, List.take_length, hlm, List.take_length] at htk
      exact htk
    rw [decide_eq_true hall]
    refine go_Tok7 (k := ?_)
    exact bodyE_ret1 rfl (.bool true) rfl ⟨rfl, hx03⟩
set_option maxHeartbeats 8000000 in
theorem lawSame_any (w : World) (A B : Option Addr) (c d : Nat) (l m : List UInt8) (hA : Bs w A l) (hB : Bs w B m) (hlm : l = m) : Calls Try.prog 32 #[.slice A l.length c, .slice B m.length d] w (RetV w (.bool true)) := by
  subst hlm
  refine calls_of_CW Try.func32 rfl (by simp [Try.ntmps32]) ?_
  rw [Try.ntmps32]
  refine go_Tok7 (k := ?_)
  refine OW_strOf und_bytes und_u8 und_string hA rfl ?_
  refine go_Tok7 (k := ?_)
  refine OW_strOf und_bytes und_u8 und_string hB rfl ?_
  refine go_Tok7 (k := ?_)
  refine OW_eqlS rfl rfl ?_
  rw [decide_eq_true rfl]
  refine go_Tok7 (k := ?_)
  exact bodyE_ret1 rfl (.bool true) rfl ⟨rfl, Ext.rfl' _⟩
set_option maxHeartbeats 8000000 in
theorem copied_any (w : World) (B : Option Addr) (cB : Nat) (t : TK) (hB : GRd w B t.line) (hn : t.line.length ≤ 10000) (htg : t.tag.length = 32) : Calls Try.prog 33 #[.agg (tcells t (.slice B t.line.length cB)).toArray] w
    (fun en w' => ∃ A c, en = .returned (.agg (tcells t (.slice A t.line.length c)).toArray) ∧ GOwn w' w.heap.size A c t.line ∧ Ext w w') := by
  have hTl := fun v => tcells_length htg v
  refine calls_of_CW Try.func33 rfl (by simp [Try.ntmps33]) ?_
  rw [Try.ntmps33]
  refine go_Tok7 (k := ?_)
  refine OW_box _ rfl ?_
  intro w1 g1 hb1 hg1 hlt1 hx1
  have hb1 : Blk w1 g1 45 (tcells t (.slice B t.line.length cB)).toArray := hb1
  refine go_Tok7 (k := ?_)
  refine OW_allocA agg_Token ?_
  intro w2 g2 hb2 hg2 hlt2 hx2
  replace hb1 := hb1.ext hx2
  have hx02 := hx1.trans' hx2
  refine go_Tok7 (k := ?_)
  refine OW_litM [] und_Grants agg_Grant rfl rfl (by simp) (by decide) ?_
  intro w3 g3 hb3 hg3 hlt3 hx3
  have ho3 : GOwn w3 w2.heap.size (some ⟨g3, 0, none⟩) 0 [] := GOwn.nil hb3 hg3
  replace hb1 := hb1.ext hx3
  replace hb2 := hb2.ext hx3
  have hx03 := hx02.trans' hx3
  refine go_Tok7 (k := ?_)
  refine OW_apG (l := []) rfl rfl ho3 (hB.ext hx03) (by simp; omega) hx3.size ?_
  intro w4 A4 c4 ho4 hT4 hk4 hbel
  rw [List.nil_append] at ho4 ⊢
  have hx24 : Ext w2 w4 := hx3.trans hbel
  replace hb1 := hT4 _ _ _ (by decide) hb1
  replace hb2 := hT4 _ _ _ (by decide) hb2
  have hx04 := hx02.trans' hx24
  refine go_Tok7 (k := ?_)
  refine OW_storeB one_grants rfl (.slice A4 t.line.length c4) rfl rfl hb1 (by rw [List.size_toArray, hTl]; decide) ?_
  intro w5 hb5 hgr5
  have hb5 : Blk w5 g1 45 (tcells t (.slice A4 t.line.length c4)).toArray := hb5
  have hk5 := Keeps.of_only hgr5 (S := (· = g1)) rfl
  have hx05 : Ext w w5 := hk5.ext hx04 (fun j hj => by have hj : j = g1 := hj; omega)
  replace hb2 := hb2.keeps hk5 (by omega)
  have ho5 : GOwn w5 w2.heap.size A4 c4 t.line := ownN_keeps ho4 hk5 (ho4.ne hb1 (by decide))
  refine go_Tok7 (k := ?_)
  refine OW_loadX agg_Token rfl (tcells t (.slice A4 t.line.length c4)) (hTl _) hb5.atL ?_
  refine go_Tok7 (k := ?_)
  refine OW_storeA agg_Token rfl (tcells t (.slice A4 t.line.length c4)) rfl (hTl _) hb2 (by kernel_rfl) (tcells_one _ _ _ _) ?_
  intro w6 hb6 hgr6
  have hk6 := Keeps.of_only hgr6 (S := (· = g2)) rfl
  have hx06 : Ext w w6 := hk6.ext hx05 (fun j hj => by have hj : j = g2 := hj; have := hx1.size; omega)
  have ho6 : GOwn w6 w2.heap.size A4 c4 t.line := ownN_keeps ho5 hk6 (ho5.ne hb2 (by decide))
  refine go_Tok7 (k := ?_)
  exact bodyE_retc rfl agg_Token rfl (tcells t (.slice A4 t.line.length c4)) (hTl _) (Blk.range hb6) ⟨A4, c4, rfl, ho6.mono hx02.size, hx06⟩
theorem line_take {l : List GD} (h : lineOk l = true) {k : Nat} (h1 : 1 ≤ k) (hk : k ≤ l.length) : lineOk (l.take k) = true := by
  obtain ⟨n1, n4, hg⟩ := lineOk_parts h
  unfold lineOk
  have hl : (l.take k).length = k := by rw [List.length_take]; omega
  rw [hl, decide_eq_true h1, decide_eq_true (show k ≤ 4 by omega)]
  simp only [Bool.true_and, List.all_eq_true]
  exact fun x hx => hg x (List.mem_of_mem_take hx)
theorem att_take {l : List GD} (h : lineOk l = true) {ten : Int} (h0 : 0 ≤ ten ∧ ten ≤ 8) (key : List UInt8) {k : Nat} (h1 : 1 ≤ k) (hk : k < l.length) : attT ⟨ten, l.take k, tagL key ten (l.take k)⟩ l[k] = (⟨ten, l.take (k + 1), tagL key ten (l.take (k + 1))⟩, 0) := by
  obtain ⟨n1, n4, hg⟩ := lineOk_parts h
  have hl : (l.take k).length = k := by rw [List.length_take]; omega
  have hm : mayT ⟨ten, l.take k, tagL key ten (l.take k)⟩ = true := by
    unfold mayT inR
    rw [line_take h h1 (by omega), decide_eq_true h0.1, decide_eq_true h0.2]
    rfl
  unfold attT
  rw [hm, hg _ (List.getElem_mem hk), Bool.and_self, if_pos rfl, if_neg (by show ¬ (l.take k).length = 4; omega)]
  have hne : l.take k ≠ [] := fun hh => by rw [hh] at hl; simp at hl; omega
  rw [List.take_succ_eq_append_getElem hk, tagL_snoc key ten hne]
theorem mint_one {l : List GD} (h : lineOk l = true) {ten : Int} (h0 : 0 ≤ ten ∧ ten ≤ 8) (key : List UInt8) (hl : 0 < l.length) : mintT key ten l[0] = (⟨ten, l.take 1, tagL key ten (l.take 1)⟩, 0) := by
  have h1 : l.take 1 = [l[0]] := by rw [List.take_succ_eq_append_getElem hl, List.take_zero, List.nil_append]
  have hm : mayT ⟨ten, [l[0]], tzS⟩ = true := by
    unfold mayT inR
    rw [← h1, line_take h (Nat.le_refl _) hl, decide_eq_true h0.1, decide_eq_true h0.2]
    rfl
  unfold mintT
  rw [hm, if_pos rfl, h1]
set_option maxHeartbeats 8000000 in
theorem made_any (w : World) (A B : Option Addr) (cA cB : Nat) (key : List UInt8) (ten : Int) (l : List GD) (ha : Bs w A key) (hca : key.length ≤ cA) (hla : key.length ≤ 80000) (h0 : 0 ≤ ten ∧ ten ≤ 8) (hB : GRd w B l) (hcB : l.length ≤ cB) (hok : lineOk l = true) :
    Calls Try.prog 42 #[.slice A key.length cA, .int .i64 ten, .slice B l.length cB] w
    (fun en w' => ∃ A2 c2, en = .returned (.tuple #[.agg (tcells ⟨ten, l, tagL key ten l⟩ (.slice A2 l.length c2)).toArray, .bool true]) ∧ GRd w' A2 l ∧ l.length ≤ c2 ∧ Ext w w') := by
  obtain ⟨n1, n4, _⟩ := lineOk_parts hok
  have htl := fun k => tagL_len key ten (l.take k)
  have hne : ¬ (l.length : Int) = 0 := by omega
  refine calls_of_CW Try.func42 rfl (by simp [Try.ntmps42]) ?_
  rw [Try.ntmps42]
  refine go_Tok7 (k := ?_)
  refine OW_allocA agg_Token ?_
  intro w1 g6 hb6 hg6 hlt6 hx1
  obtain ⟨ad, hA0, hat⟩ := (hB.ext hx1).at_ (i := 0) (by omega)
  have hM := fun v (hv : Ext w v) => tokMint_any v A cA key ten l[0] (ha.ext hv) hca hla
  rw [mint_one hok h0 key n1] at hM
  generalize l[0] = ga at *
  have hga := gAt hat
  subst hA0
  refine go_Tok7 (k := ?_)
  refine OW_callC Try.func29 (by kernel_rfl) rfl (hM w1 hx1) rfl ?_
  rintro en w2 ⟨A2, c2, rfl, hO2, hx2⟩
  refine ⟨_, rfl, ?_⟩
  have hx02 := hx1.trans' hx2
  have hs2 := hx2.size
  have hs02 := hx02.size
  replace hb6 := hb6.ext hx2
  clear hM hat hga
  refine go_Tok7 (k := ?_)
  refine OW_allocA agg_Token ?_
  intro w3 g8 hb8 hg8 hlt8 hx3
  replace hb6 := hb6.ext hx3
  refine go_Tok7 (k := ?_)
  refine OW_storeA agg_Token rfl (tcells ⟨ten, l.take 1, tagL key ten (l.take 1)⟩ (.slice A2 (l.take 1).length c2)) rfl (tcells_length (htl 1) _) hb8 (by kernel_rfl) (tcells_one _ _ _ _) ?_
  intro w4 hb8 hgr4
  have hk4 := Keeps.of_only hgr4 (S := (· = g8)) rfl
  have hx24 : Ext w2 w4 := hk4.ext hx3 (fun j hj => by have hj : j = g8 := hj; omega)
  have hx04 := hx02.trans' hx24
  replace hb6 := hb6.keeps hk4 (by omega)
  have hO4 : GOwn w4 w.heap.size A2 c2 (l.take 1) := (hO2.ext hx24).mono hx1.size
  clear hgr4
  have hg68 : ¬ g6 = g8 := by omega
  have hg8w : w.heap.size ≤ g8 := by have := hx02.size; omega
  refine go_Tok7 (k := ?_)
  refine CW_loop (fun e' w' => ∃ (k : Nat) (A2 : Option Addr) (c2 : Nat), 1 ≤ k ∧ k ≤ l.length ∧ e' 2 = .slice (some ad) l.length cB ∧ e' 6 = .pointer (some ⟨g6, 0, none⟩) ∧ e' 8 = .pointer (some ⟨g8, 0, none⟩) ∧ e' 9 = .int .i64 0 ∧ e' 10 = .int .i64 k ∧ Blk w' g6 45 (tcells t0 (.slice none 0 0)).toArray ∧ Blk w' g8 45 (tcells ⟨ten, l.take k, tagL key ten (l.take k)⟩ (.slice A2 (l.take k).length c2)).toArray ∧ GOwn w' w.heap.size A2 c2 (l.take k) ∧ Ext w w') (fun e' _ => l.length - (intOf (e' 10)).toNat) ⟨1, A2, c2, Nat.le_refl _, n1, rfl, rfl, rfl, rfl, rfl, hb6, hb8, hO4, hx04⟩ ?_
  clear hb6 hb8 hO4 hO2
  rintro e' w5 ⟨k, A5, c5, hk1, hk, q2, q6, q8, q9, q10, hb6, hb8, hO5, hx05⟩
  have hG := hO5.rd
  have hc5 := hO5.cap
  rw [upd_self q2, upd_self q6, upd_self q8, upd_self q9, upd_self q10]
  clear q2 q6 q8 q9 q10
  refine go_Tok7 (k := ?_)
  by_cases hlt : k < l.length
  · have hd : decide ((k : Int) < (l.length : Int)) = true := decide_eq_true (by omega)
    rw [hd]
    obtain ⟨ad', hA0, hat⟩ := (hB.ext hx05).at_ hlt
    cases hA0
    have hAt := fun v (hv : Ext w5 v) => tokAtt_any v A5 c5 ⟨ten, l.take k, tagL key ten (l.take k)⟩ l[k] (hG.ext hv) hc5 (by show (l.take k).length ≤ 10000; rw [List.length_take]; omega) (htl k)
    rw [att_take hok h0 key hk1 hlt] at hAt
    generalize l[k] = gk at *
    have hgk := gAt hat
    have hTl := tcells_length (t := ⟨ten, l.take k, tagL key ten (l.take k)⟩) (htl k) (.slice A5 (l.take k).length c5)
    refine go_Tok7 (k := ?_)
    obtain ⟨C, hC⟩ : ∃ C : World → Prop, C = fun v => Ext w5 v := ⟨_, rfl⟩
    have yT : ∀ v, C v → AtM v ⟨g8, 0, none⟩ (tcells ⟨ten, l.take k, tagL key ten (l.take k)⟩ (.slice A5 (l.take k).length c5)) 34 := by rw [hC]; exact fun v hv => ⟨(hb8.ext hv).atL, hTl⟩
    have yG : ∀ v, C v → AtM v (ad.add (k * 3)) (gcells gk) 3 := by rw [hC]; exact fun v hv => hgk.ext hv
    refine CW_tree2 [0, 4] (.q 0 (.p 1 (.p 2 (.p 3 (.q 4 (.d 5 (.p 6 (.p 7 (.p 8 (.d 9 (.p 10 .done))))))))))) (C) (by kernel_rfl) (by kernel_rfl) (by kernel_rfl) ?_ ?_
    · exact inE hC
    intro w6 hx6 h_C
    refine oy_Tok7 (k := ?_)
    refine OW_callC Try.func34 (by kernel_rfl) rfl (hAt w6 hx6) rfl ?_
    rintro en w7 ⟨A7, c7, rfl, hO7, hx7⟩
    refine ⟨_, rfl, ?_⟩
    have hy7 := hx6.trans' hx7
    first | refine OW_nil (goY_mkE hC (hy7) ?_) | refine OW_nil (goY_dropE hC (hy7) ?_)
    refine oy_Tok7 (k := ?_)
    refine OW_storeA agg_Token rfl (tcells ⟨ten, l.take (k + 1), tagL key ten (l.take (k + 1))⟩ (.slice A7 (l.take (k + 1)).length c7)) rfl (tcells_length (htl (k + 1)) _) (hb8.ext hy7) (by rw [List.size_toArray, hTl]) (tcells_one _ _ _ _) ?_
    intro w8 hb8' hgr8
    have hk8 := Keeps.of_only hgr8 (S := (· = g8)) rfl
    have hx08 : Ext w w8 := hk8.ext (hx05.trans' hy7) (fun j hj => by have hj : j = g8 := hj; omega)
    have hb6' := (hb6.ext hy7).keeps hk8 hg68
    have hO8 : GOwn w8 w.heap.size A7 c7 (l.take (k + 1)) := GOwn.mono (show GOwn w8 w6.heap.size A7 c7 (l.take (k + 1)) from ownN_keeps hO7 hk8 (hO7.ne (hb8.ext hy7) (by decide))) (hx05.trans' hx6).size
    refine OW_nil (goY_drop (fun v => v = w8) rfl ?_)
    refine oy_Tok7 (k := ?_)
    refine go_Tok7 (k := ?_)
    refine ⟨⟨k + 1, A7, c7, by omega, by omega, rfl, rfl, rfl, rfl, rfl, hb6', hb8', hO8, hx08⟩, ?_⟩
    show l.length - ((k : Int) + 1).toNat < l.length - (k : Int).toNat
    omega
  · have hd : decide ((k : Int) < (l.length : Int)) = false := decide_eq_false (by omega)
    rw [hd]
    have hge : k = l.length := by omega
    rw [hge, List.take_length] at hb8 hG hc5 hO5
    have hT := tagL_len key ten l
    generalize tagL key ten l = X at *
    refine go_Tok7 (k := ?_)
    refine OW_loadX agg_Token rfl (tcells ⟨ten, l, X⟩ (.slice A5 l.length c5)) (tcells_length hT _) hb8.atL ?_
    refine go_Tok7 (k := ?_)
    refine OW_storeA agg_Token rfl (tcells ⟨ten, l, X⟩ (.slice A5 l.length c5)) rfl (tcells_length hT _) hb6 (by kernel_rfl) (tcells_one _ _ _ _) ?_
    intro w6 hb6' hgr6
    have hk6 := Keeps.of_only hgr6 (S := (· = g6)) rfl
    have hx06 : Ext w w6 := hk6.ext hx05 (fun j hj => by have hj : j = g6 := hj; omega)
    have hG6 : GRd w6 A5 l := GOwn.rd (base := w.heap.size) (c := c5) (ownN_keeps hO5 hk6 (hO5.ne hb6 (by decide)))
    refine go_Tok7 (k := ?_)
    exact bodyE_retc2 rfl agg_Token rfl (tcells ⟨ten, l, X⟩ (.slice A5 l.length c5)) (.bool true) rfl (tcells_length hT _) (Blk.range hb6') ⟨A5, c5, rfl, hG6, hc5, hx06⟩
set_option maxHeartbeats 8000000 in
theorem within_any (w : World) (A B : Option Addr) (c d : Nat) (a b : List GD) (hA : GRd w A a) (hB : GRd w B b) (ha : lineOk a = true) (hb : lineOk b = true) (h1 : leavesR a &&& ~~~ (leavesR b) = 0) (h2 : leavesE a ≤ leavesE b) : Calls Try.prog 43 #[.slice A a.length c, .slice B b.length d] w (RetV w (.bool true)) := by
  have hLa := fun v (hv : Ext w v) => rLeaves_any v A c a (hA.ext hv) (by have := (lineOk_parts ha).2.1; omega)
  have hLb := fun v (hv : Ext w v) => rLeaves_any v B d b (hB.ext hv) (by have := (lineOk_parts hb).2.1; omega)
  rw [ha, if_pos rfl] at hLa
  rw [hb, if_pos rfl] at hLb
  generalize leavesR a = r at *
  generalize leavesE a = x at *
  generalize leavesR b = s at *
  generalize leavesE b = y at *
  refine calls_of_CW Try.func43 rfl (by simp [Try.ntmps43]) ?_
  rw [Try.ntmps43]
  refine go_Tok7 (k := ?_)
  refine OW_callV Try.func85 (by kernel_rfl) rfl (hLa w (Ext.rfl' _)) rfl ?_
  intro w1 hx1
  refine go_Tok7 (k := ?_)
  refine OW_callV Try.func85 (by kernel_rfl) rfl (hLb w1 hx1) rfl ?_
  intro w2 hx2
  have hx02 := hx1.trans' hx2
  refine go_Tok7 (k := ?_)
  refine OW_callV Try.func86 (by kernel_rfl) rfl (rHas_any w2 s r) rfl ?_
  intro w3 hx3
  rw [show (r &&& ~~~ s == 0) = true from beq_iff_eq.2 h1]
  refine go_Tok7 (k := ?_)
  rw [decide_eq_true h2]
  refine go_Tok7 (k := ?_)
  exact bodyE_ret1 rfl (.bool true) rfl ⟨rfl, hx02.trans' hx3⟩
end Go.Proofs.Ytdpcahfgdpikfaa
