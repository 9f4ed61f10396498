/- Several texts in one, as they stand in wip/src. -/
import Derived.Test.YtdpcahfgdpikfaaGt2
import Derived.Test.YtdpcahfgdpikfaaGt4
import Derived.Test.YtdpcahfgdpikfaaGt8
/- Walk: Sum of a Hash that was made; Sum of some bytes. -/
namespace Go.Proofs.Ytdpcahfgdpikfaa
open Go Go.RowKit
set_option linter.unusedVariables false
set_option maxRecDepth 4000
theorem go_Sha5 {A B : Prop} (h : Held B → A := by
  intro hEnd
  repeat (first | refine OW_nilCheck rfl ?_ | refine OW_fieldB fldo_H0 rfl ?_ | refine OW_fieldB fldo_H1 rfl ?_ | refine OW_fieldB fldo_H2 rfl ?_ | refine OW_fieldB fldo_H3 rfl ?_ | refine OW_eqlNil und_pH rfl ?_ | refine OW_moveV (.int _ _) rfl ?_ | refine OW_moveV (.slice _ _ _) rfl ?_ | refine OW_moveV (.bool _) rfl ?_ | refine OW_moveV (.pointer _) rfl ?_ | refine OW_moveV (.string _) rfl ?_ | refine OW_moveV (.agg _) rfl ?_ | refine OW_moveV (.tuple _) rfl ?_ | refine OW_nil ?_ | refine thenE_normal ?_ | refine CW_seq ?_ | refine CW_region (by kernel_rfl) ?_ | refine OW_assignV (.int _ _) rfl ?_ | refine OW_assignV (.slice _ _ _) rfl ?_ | refine OW_assignV (.bool _) rfl ?_ | refine OW_assignV (.pointer _) rfl ?_ | refine OW_assignV (.string _) rfl ?_ | refine OW_assignV (.agg _) rfl ?_ | refine OW_assignV (.tuple _) rfl ?_ | refine OW_addI rfl rfl (by omega) ?_ | refine OW_subI rfl rfl (by omega) ?_ | refine OW_mulI rfl rfl (by omega) ?_ | refine OW_lss rfl rfl ?_ | refine OW_extract rfl rfl ?_ | refine OW_gtr rfl rfl ?_ | refine OW_leq rfl rfl ?_ | refine OW_geq rfl rfl ?_ | refine OW_eql rfl rfl ?_ | refine OW_neq rfl rfl ?_ | refine OW_not rfl ?_ | refine OW_pickT rfl _ rfl ?_ | refine OW_pickF rfl (.bool _) rfl ?_ | refine OW_pickB rfl rfl rfl ?_ | refine OW_move ?_ | refine OW_assign ?_ | refine OW_pass rfl ?_ | refine OW_take rfl ?_ | refine OW_lenS (by first | with_reducible exact und_bytes | with_reducible exact und_bytess) rfl ?_ | refine OW_convInt (by first | with_reducible exact und_u8 | with_reducible exact und_u64 | with_reducible exact und_int | with_reducible exact und_u32) (by first | with_reducible exact und_u8 | with_reducible exact und_u64 | with_reducible exact und_int | with_reducible exact und_u32) rfl ?_ | refine OW_add rfl rfl ?_ | refine OW_sub rfl rfl ?_ | refine OW_mul rfl rfl ?_ | refine OW_min2 rfl rfl ?_ | refine OW_max2 rfl rfl ?_ | refine OW_neg rfl ?_ | refine CW_block ?_ | refine CW_condT rfl ?_ | refine CW_condF rfl ?_ | refine CW_exit ?_ | refine CW_ret ?_ | refine CW_skip ?_ | refine LW_seq ?_ | refine LW_regC ?_ | refine LW_condC ?_ | refine LW_regF ?_ | refine LW_condF ?_ | refine FW_seq ?_ | refine FW_region (by kernel_rfl) ?_ | refine FW_block ?_ | refine FW_condT rfl ?_ | refine FW_condF rfl ?_ | refine FW_exit ?_ | refine FW_ret ?_ | refine FW_skip ?_ | refine LW_ret ?_ | refine LW_skip ?_ | refine thenE_exit ?_ | refine thenE_ret ?_ | refine inBlockE_normal ?_ | refine inBlockE_same ?_ | refine inBlockE_ret ?_ | refine inBlockE_ne (by rfl) ?_ | refine OW_eqlB (by with_reducible exact und_bool) rfl rfl ?_ | refine OW_neqB (by with_reducible exact und_bool) rfl rfl ?_ | refine OW_idxS (by with_reducible exact und_bytes) one_u8 rfl rfl _ rfl (by omega) ?_ | refine OW_idxS (by with_reducible exact und_bytess) one_bytes rfl rfl _ rfl (by omega) ?_ | refine OW_load1 (by first | with_reducible exact one_u8 | with_reducible exact one_bytes) rfl _ (by assumption) ?_)
  exact hEnd.out) (k : B) : A := h ⟨k⟩
theorem oy_Sha5 {A B : Prop} (h : Held B → A := by
  intro hEnd
  repeat (first
    | refine OY_done ?_
    | (apply OY_p _ rfl
       · intro wd
         (first | refine OW_nilCheck rfl ?_ | refine OW_fieldB fldo_H0 rfl ?_ | refine OW_fieldB fldo_H1 rfl ?_ | refine OW_fieldB fldo_H2 rfl ?_ | refine OW_fieldB fldo_H3 rfl ?_ | refine OW_eqlNil und_pH rfl ?_ | refine OW_moveV (.int _ _) rfl ?_ | refine OW_moveV (.slice _ _ _) rfl ?_ | refine OW_moveV (.bool _) rfl ?_ | refine OW_moveV (.pointer _) rfl ?_ | refine OW_moveV (.string _) rfl ?_ | refine OW_moveV (.agg _) rfl ?_ | refine OW_moveV (.tuple _) rfl ?_ | refine OW_nil ?_ | refine thenE_normal ?_ | refine CW_seq ?_ | refine CW_region (by kernel_rfl) ?_ | refine OW_assignV (.int _ _) rfl ?_ | refine OW_assignV (.slice _ _ _) rfl ?_ | refine OW_assignV (.bool _) rfl ?_ | refine OW_assignV (.pointer _) rfl ?_ | refine OW_assignV (.string _) rfl ?_ | refine OW_assignV (.agg _) rfl ?_ | refine OW_assignV (.tuple _) rfl ?_ | refine OW_addI rfl rfl (by omega) ?_ | refine OW_subI rfl rfl (by omega) ?_ | refine OW_mulI rfl rfl (by omega) ?_ | refine OW_lss rfl rfl ?_ | refine OW_extract rfl rfl ?_ | refine OW_gtr rfl rfl ?_ | refine OW_leq rfl rfl ?_ | refine OW_geq rfl rfl ?_ | refine OW_eql rfl rfl ?_ | refine OW_neq rfl rfl ?_ | refine OW_not rfl ?_ | refine OW_pickT rfl _ rfl ?_ | refine OW_pickF rfl (.bool _) rfl ?_ | refine OW_pickB rfl rfl rfl ?_ | refine OW_move ?_ | refine OW_assign ?_ | refine OW_pass rfl ?_ | refine OW_take rfl ?_ | refine OW_lenS (by first | with_reducible exact und_bytes | with_reducible exact und_bytess) rfl ?_ | refine OW_convInt (by first | with_reducible exact und_u8 | with_reducible exact und_u64 | with_reducible exact und_int | with_reducible exact und_u32) (by first | with_reducible exact und_u8 | with_reducible exact und_u64 | with_reducible exact und_int | with_reducible exact und_u32) rfl ?_ | refine OW_add rfl rfl ?_ | refine OW_sub rfl rfl ?_ | refine OW_mul rfl rfl ?_ | refine OW_min2 rfl rfl ?_ | refine OW_max2 rfl rfl ?_ | refine OW_neg rfl ?_ | refine CW_block ?_ | refine CW_condT rfl ?_ | refine CW_condF rfl ?_ | refine CW_exit ?_ | refine CW_ret ?_ | refine CW_skip ?_ | refine LW_seq ?_ | refine LW_regC ?_ | refine LW_condC ?_ | refine LW_regF ?_ | refine LW_condF ?_ | refine FW_seq ?_ | refine FW_region (by kernel_rfl) ?_ | refine FW_block ?_ | refine FW_condT rfl ?_ | refine FW_condF rfl ?_ | refine FW_exit ?_ | refine FW_ret ?_ | refine FW_skip ?_ | refine LW_ret ?_ | refine LW_skip ?_ | refine thenE_exit ?_ | refine thenE_ret ?_ | refine inBlockE_normal ?_ | refine inBlockE_same ?_ | refine inBlockE_ret ?_ | refine inBlockE_ne (by rfl) ?_ | refine OW_eqlB (by with_reducible exact und_bool) rfl rfl ?_ | refine OW_neqB (by with_reducible exact und_bool) rfl rfl ?_ | refine OW_idxS (by with_reducible exact und_bytes) one_u8 rfl rfl _ rfl (by omega) ?_ | refine OW_idxS (by with_reducible exact und_bytess) one_bytes rfl rfl _ rfl (by omega) ?_ | refine OW_load1 (by first | with_reducible exact one_u8 | with_reducible exact one_bytes) rfl _ (by assumption) ?_)
         refine OW_nil ?_
         exact stay_mk _ _ _ _)
    | (apply OY_q _ rfl
       · intro wd hwd
         (first | refine OW_nilCheck rfl ?_ | refine OW_fieldB fldo_H0 rfl ?_ | refine OW_fieldB fldo_H1 rfl ?_ | refine OW_fieldB fldo_H2 rfl ?_ | refine OW_fieldB fldo_H3 rfl ?_ | refine OW_eqlNil und_pH rfl ?_ | refine OW_moveV (.int _ _) rfl ?_ | refine OW_moveV (.slice _ _ _) rfl ?_ | refine OW_moveV (.bool _) rfl ?_ | refine OW_moveV (.pointer _) rfl ?_ | refine OW_moveV (.string _) rfl ?_ | refine OW_moveV (.agg _) rfl ?_ | refine OW_moveV (.tuple _) rfl ?_ | refine OW_nil ?_ | refine thenE_normal ?_ | refine CW_seq ?_ | refine CW_region (by kernel_rfl) ?_ | refine OW_assignV (.int _ _) rfl ?_ | refine OW_assignV (.slice _ _ _) rfl ?_ | refine OW_assignV (.bool _) rfl ?_ | refine OW_assignV (.pointer _) rfl ?_ | refine OW_assignV (.string _) rfl ?_ | refine OW_assignV (.agg _) rfl ?_ | refine OW_assignV (.tuple _) rfl ?_ | refine OW_addI rfl rfl (by omega) ?_ | refine OW_subI rfl rfl (by omega) ?_ | refine OW_mulI rfl rfl (by omega) ?_ | refine OW_lss rfl rfl ?_ | refine OW_extract rfl rfl ?_ | refine OW_gtr rfl rfl ?_ | refine OW_leq rfl rfl ?_ | refine OW_geq rfl rfl ?_ | refine OW_eql rfl rfl ?_ | refine OW_neq rfl rfl ?_ | refine OW_not rfl ?_ | refine OW_pickT rfl _ rfl ?_ | refine OW_pickF rfl (.bool _) rfl ?_ | refine OW_pickB rfl rfl rfl ?_ | refine OW_move ?_ | refine OW_assign ?_ | refine OW_pass rfl ?_ | refine OW_take rfl ?_ | refine OW_lenS (by first | with_reducible exact und_bytes | with_reducible exact und_bytess) rfl ?_ | refine OW_convInt (by first | with_reducible exact und_u8 | with_reducible exact und_u64 | with_reducible exact und_int | with_reducible exact und_u32) (by first | with_reducible exact und_u8 | with_reducible exact und_u64 | with_reducible exact und_int | with_reducible exact und_u32) rfl ?_ | refine OW_add rfl rfl ?_ | refine OW_sub rfl rfl ?_ | refine OW_mul rfl rfl ?_ | refine OW_min2 rfl rfl ?_ | refine OW_max2 rfl rfl ?_ | refine OW_neg rfl ?_ | refine CW_block ?_ | refine CW_condT rfl ?_ | refine CW_condF rfl ?_ | refine CW_exit ?_ | refine CW_ret ?_ | refine CW_skip ?_ | refine LW_seq ?_ | refine LW_regC ?_ | refine LW_condC ?_ | refine LW_regF ?_ | refine LW_condF ?_ | refine FW_seq ?_ | refine FW_region (by kernel_rfl) ?_ | refine FW_block ?_ | refine FW_condT rfl ?_ | refine FW_condF rfl ?_ | refine FW_exit ?_ | refine FW_ret ?_ | refine FW_skip ?_ | refine LW_ret ?_ | refine LW_skip ?_ | refine thenE_exit ?_ | refine thenE_ret ?_ | refine inBlockE_normal ?_ | refine inBlockE_same ?_ | refine inBlockE_ret ?_ | refine inBlockE_ne (by rfl) ?_ | refine OW_eqlB (by with_reducible exact und_bool) rfl rfl ?_ | refine OW_neqB (by with_reducible exact und_bool) rfl rfl ?_ | refine OW_idxS (by with_reducible exact und_bytes) one_u8 rfl rfl _ rfl (by omega) ?_ | refine OW_idxS (by with_reducible exact und_bytess) one_bytes rfl rfl _ rfl (by omega) ?_ | refine OW_load1 (by first | with_reducible exact one_u8 | with_reducible exact one_bytes) rfl _ (by assumption) ?_ | (refine OW_isLoad ?_; refine OW_loadBk (by first | with_reducible exact one_u8 | with_reducible exact one_bytes | with_reducible exact one_bool | with_reducible exact one_int | with_reducible exact one_errno | with_reducible exact one_u32 | with_reducible exact one_u64 | with_reducible exact one_string) rfl (by apply_assumption; assumption) _ (by first | assumption | rfl) ?_) | refine OW_load1 (by first | with_reducible exact one_u8 | with_reducible exact one_bytes | with_reducible exact one_bool | with_reducible exact one_int | with_reducible exact one_errno | with_reducible exact one_u32 | with_reducible exact one_u64 | with_reducible exact one_string) rfl _ (by apply_assumption; assumption) ?_)
         refine OW_nil ?_
         exact stay_mk _ _ _ _)
    | refine OY_ppass rfl rfl ?_
    | refine OY_qpass rfl rfl ?_
    | (apply OY_ptake _ rfl rfl
       · intro wd
         (first | refine OW_nilCheck rfl ?_ | refine OW_fieldB fldo_H0 rfl ?_ | refine OW_fieldB fldo_H1 rfl ?_ | refine OW_fieldB fldo_H2 rfl ?_ | refine OW_fieldB fldo_H3 rfl ?_ | refine OW_eqlNil und_pH rfl ?_ | refine OW_moveV (.int _ _) rfl ?_ | refine OW_moveV (.slice _ _ _) rfl ?_ | refine OW_moveV (.bool _) rfl ?_ | refine OW_moveV (.pointer _) rfl ?_ | refine OW_moveV (.string _) rfl ?_ | refine OW_moveV (.agg _) rfl ?_ | refine OW_moveV (.tuple _) rfl ?_ | refine OW_nil ?_ | refine thenE_normal ?_ | refine CW_seq ?_ | refine CW_region (by kernel_rfl) ?_ | refine OW_assignV (.int _ _) rfl ?_ | refine OW_assignV (.slice _ _ _) rfl ?_ | refine OW_assignV (.bool _) rfl ?_ | refine OW_assignV (.pointer _) rfl ?_ | refine OW_assignV (.string _) rfl ?_ | refine OW_assignV (.agg _) rfl ?_ | refine OW_assignV (.tuple _) rfl ?_ | refine OW_addI rfl rfl (by omega) ?_ | refine OW_subI rfl rfl (by omega) ?_ | refine OW_mulI rfl rfl (by omega) ?_ | refine OW_lss rfl rfl ?_ | refine OW_extract rfl rfl ?_ | refine OW_gtr rfl rfl ?_ | refine OW_leq rfl rfl ?_ | refine OW_geq rfl rfl ?_ | refine OW_eql rfl rfl ?_ | refine OW_neq rfl rfl ?_ | refine OW_not rfl ?_ | refine OW_pickT rfl _ rfl ?_ | refine OW_pickF rfl (.bool _) rfl ?_ | refine OW_pickB rfl rfl rfl ?_ | refine OW_move ?_ | refine OW_assign ?_ | refine OW_pass rfl ?_ | refine OW_take rfl ?_ | refine OW_lenS (by first | with_reducible exact und_bytes | with_reducible exact und_bytess) rfl ?_ | refine OW_convInt (by first | with_reducible exact und_u8 | with_reducible exact und_u64 | with_reducible exact und_int | with_reducible exact und_u32) (by first | with_reducible exact und_u8 | with_reducible exact und_u64 | with_reducible exact und_int | with_reducible exact und_u32) rfl ?_ | refine OW_add rfl rfl ?_ | refine OW_sub rfl rfl ?_ | refine OW_mul rfl rfl ?_ | refine OW_min2 rfl rfl ?_ | refine OW_max2 rfl rfl ?_ | refine OW_neg rfl ?_ | refine CW_block ?_ | refine CW_condT rfl ?_ | refine CW_condF rfl ?_ | refine CW_exit ?_ | refine CW_ret ?_ | refine CW_skip ?_ | refine LW_seq ?_ | refine LW_regC ?_ | refine LW_condC ?_ | refine LW_regF ?_ | refine LW_condF ?_ | refine FW_seq ?_ | refine FW_region (by kernel_rfl) ?_ | refine FW_block ?_ | refine FW_condT rfl ?_ | refine FW_condF rfl ?_ | refine FW_exit ?_ | refine FW_ret ?_ | refine FW_skip ?_ | refine LW_ret ?_ | refine LW_skip ?_ | refine thenE_exit ?_ | refine thenE_ret ?_ | refine inBlockE_normal ?_ | refine inBlockE_same ?_ | refine inBlockE_ret ?_ | refine inBlockE_ne (by rfl) ?_ | refine OW_eqlB (by with_reducible exact und_bool) rfl rfl ?_ | refine OW_neqB (by with_reducible exact und_bool) rfl rfl ?_ | refine OW_idxS (by with_reducible exact und_bytes) one_u8 rfl rfl _ rfl (by omega) ?_ | refine OW_idxS (by with_reducible exact und_bytess) one_bytes rfl rfl _ rfl (by omega) ?_ | refine OW_load1 (by first | with_reducible exact one_u8 | with_reducible exact one_bytes) rfl _ (by assumption) ?_)
         refine OW_nil ?_
         exact stay_mk _ _ _ _)
    | (apply OY_qtake _ rfl rfl
       · intro wd hwd
         (first | refine OW_nilCheck rfl ?_ | refine OW_fieldB fldo_H0 rfl ?_ | refine OW_fieldB fldo_H1 rfl ?_ | refine OW_fieldB fldo_H2 rfl ?_ | refine OW_fieldB fldo_H3 rfl ?_ | refine OW_eqlNil und_pH rfl ?_ | refine OW_moveV (.int _ _) rfl ?_ | refine OW_moveV (.slice _ _ _) rfl ?_ | refine OW_moveV (.bool _) rfl ?_ | refine OW_moveV (.pointer _) rfl ?_ | refine OW_moveV (.string _) rfl ?_ | refine OW_moveV (.agg _) rfl ?_ | refine OW_moveV (.tuple _) rfl ?_ | refine OW_nil ?_ | refine thenE_normal ?_ | refine CW_seq ?_ | refine CW_region (by kernel_rfl) ?_ | refine OW_assignV (.int _ _) rfl ?_ | refine OW_assignV (.slice _ _ _) rfl ?_ | refine OW_assignV (.bool _) rfl ?_ | refine OW_assignV (.pointer _) rfl ?_ | refine OW_assignV (.string _) rfl ?_ | refine OW_assignV (.agg _) rfl ?_ | refine OW_assignV (.tuple _) rfl ?_ | refine OW_addI rfl rfl (by omega) ?_ | refine OW_subI rfl rfl (by omega) ?_ | refine OW_mulI rfl rfl (by omega) ?_ | refine OW_lss rfl rfl ?_ | refine OW_extract rfl rfl ?_ | refine OW_gtr rfl rfl ?_ | refine OW_leq rfl rfl ?_ | refine OW_geq rfl rfl ?_ | refine OW_eql rfl rfl ?_ | refine OW_neq rfl rfl ?_ | refine OW_not rfl ?_ | refine OW_pickT rfl _ rfl ?_ | refine OW_pickF rfl (.bool _) rfl ?_ | refine OW_pickB rfl rfl rfl ?_ | refine OW_move ?_ | refine OW_assign ?_ | refine OW_pass rfl ?_ | refine OW_take rfl ?_ | refine OW_lenS (by first | with_reducible exact und_bytes | with_reducible exact und_bytess) rfl ?_ | refine OW_convInt (by first | with_reducible exact und_u8 | with_reducible exact und_u64 | with_reducible exact und_int | with_reducible exact und_u32) (by first | with_reducible exact und_u8 | with_reducible exact und_u64 | with_reducible exact und_int | with_reducible exact und_u32) rfl ?_ | refine OW_add rfl rfl ?_ | refine OW_sub rfl rfl ?_ | refine OW_mul rfl rfl ?_ | refine OW_min2 rfl rfl ?_ | refine OW_max2 rfl rfl ?_ | refine OW_neg rfl ?_ | refine CW_block ?_ | refine CW_condT rfl ?_ | refine CW_condF rfl ?_ | refine CW_exit ?_ | refine CW_ret ?_ | refine CW_skip ?_ | refine LW_seq ?_ | refine LW_regC ?_ | refine LW_condC ?_ | refine LW_regF ?_ | refine LW_condF ?_ | refine FW_seq ?_ | refine FW_region (by kernel_rfl) ?_ | refine FW_block ?_ | refine FW_condT rfl ?_ | refine FW_condF rfl ?_ | refine FW_exit ?_ | refine FW_ret ?_ | refine FW_skip ?_ | refine LW_ret ?_ | refine LW_skip ?_ | refine thenE_exit ?_ | refine thenE_ret ?_ | refine inBlockE_normal ?_ | refine inBlockE_same ?_ | refine inBlockE_ret ?_ | refine inBlockE_ne (by rfl) ?_ | refine OW_eqlB (by with_reducible exact und_bool) rfl rfl ?_ | refine OW_neqB (by with_reducible exact und_bool) rfl rfl ?_ | refine OW_idxS (by with_reducible exact und_bytes) one_u8 rfl rfl _ rfl (by omega) ?_ | refine OW_idxS (by with_reducible exact und_bytess) one_bytes rfl rfl _ rfl (by omega) ?_ | refine OW_load1 (by first | with_reducible exact one_u8 | with_reducible exact one_bytes) rfl _ (by assumption) ?_ | (refine OW_isLoad ?_; refine OW_loadBk (by first | with_reducible exact one_u8 | with_reducible exact one_bytes | with_reducible exact one_bool | with_reducible exact one_int | with_reducible exact one_errno | with_reducible exact one_u32 | with_reducible exact one_u64 | with_reducible exact one_string) rfl (by apply_assumption; assumption) _ (by first | assumption | rfl) ?_) | refine OW_load1 (by first | with_reducible exact one_u8 | with_reducible exact one_bytes | with_reducible exact one_bool | with_reducible exact one_int | with_reducible exact one_errno | with_reducible exact one_u32 | with_reducible exact one_u64 | with_reducible exact one_string) rfl _ (by apply_assumption; assumption) ?_)
         refine OW_nil ?_
         exact stay_mk _ _ _ _)
    | refine OY_a (actY_of rfl ?_)
    | refine OY_d (actY_of rfl ?_)
    | refine OY_a (actY_pass rfl rfl ?_)
    | refine OY_d (actY_pass rfl rfl ?_)
    | refine OY_a (actY_take rfl rfl ?_)
    | refine OY_d (actY_take rfl rfl ?_))
  exact hEnd.out) (k : B) : A := h ⟨k⟩
/-- The tag as far as it goes. -/
def outK (s : N8) (k : Nat) : List UInt8 := (outB s).take (4 * k) ++ List.replicate (32 - 4 * k) 0
theorem outK_0 (s : N8) : outK s 0 = tzS := by simp [outK, tzS]
theorem outK_8 (s : N8) : outK s 8 = outB s := by
  have := outB_length s
  unfold outK
  rw [List.take_of_length_le (by omega)]
  simp
theorem outK_length (s : N8) {k : Nat} (hk : k ≤ 8) : (outK s k).length = 32 := by
  have := outB_length s
  simp [outK]
  omega
theorem outK_step (s : N8) {k : Nat} (hk : k < 8) : (outK s k).take (4 * k) ++ putL (s.l.getD k 0).toNat 4 ++ (outK s k).drop (4 * k + 4) = outK s (k + 1) := by
  match k, hk with
  | 0, _ => rfl
  | 1, _ => rfl
  | 2, _ => rfl
  | 3, _ => rfl
  | 4, _ => rfl
  | 5, _ => rfl
  | 6, _ => rfl
  | 7, _ => rfl
theorem keepsF_zeros (e : Nat → Value) (d : Tmp) (g n : Nat) (w w' : World) (hw : Ext w w') {T : TypeId} (hb : Blk w' g T (Array.replicate n (.int .u8 0))) : keepsF d w (isBs (List.replicate n 0)) .normal (upd e d (.slice (some ⟨g, 0, none⟩) n n)) w' := by
  have h1 : Bs w' (some ⟨g, 0, none⟩) (List.replicate n 0) := by
    unfold Bs
    have := hb.rd
    rwa [Array.toList_replicate, show List.replicate n (Value.int .u8 0) = (List.replicate n (0 : UInt8)).map bv by rw [List.map_replicate]; rfl] at this
  have := keepsF_bs e d (some ⟨g, 0, none⟩) n (List.replicate n 0) w w' hw (by simp) h1
  rwa [List.length_replicate] at this
set_option maxHeartbeats 8000000 in
theorem hsum_any (w : World) (g : Nat) (S : Nat → Prop) (l : List UInt8) (h : HR w g S l) (hl : l.length ≤ 1000000) :
    Calls Try.prog 17 #[.pointer (some ⟨g, 0, none⟩)] w (RetV w (.tuple #[.agg ((shaL l).map bv).toArray, .int .i64 0])) := by
  obtain ⟨A0, c0, hB0, hr0, hc0, hA0⟩ := h.at_
  have hrl := restB_length l
  refine calls_of_LW Try.func17 rfl (by simp [Try.ntmps17]) ?_
  refine go_Sha5 (k := ?_)
  refine OW_allocA s_agg_Tag ?_
  intro w1 g2 hb2 hg2 hl2 hx1
  refine go_Sha5 (k := ?_)
  refine OW_callV Try.func62 (by kernel_rfl) rfl (none_any w1 g _ _ _ _ _ (hB0.ext hx1)) rfl ?_
  intro w2 hx2
  have hx02 := hx1.trans' hx2
  refine go_Sha5 (k := ?_)
  refine OW_isLoad ?_
  refine OW_loadBk one_bytes rfl (hB0.ext hx02) (.slice A0 (restB l).length c0) rfl ?_
  refine go_Sha5 (k := ?_)
  have hz : (119 - ((restB l).length : Int)).tmod 64 = (((119 - l.length % 64) % 64 : Nat) : Int) := by
    rw [hrl, show (119 - ((l.length % 64 : Nat) : Int)) = ((119 - l.length % 64 : Nat) : Int) by omega]
    rfl
  refine OW_rem rfl rfl (by decide) ?_
  rw [hz]
  obtain ⟨nz, hnz⟩ : ∃ nz, (119 - l.length % 64) % 64 = nz := ⟨_, rfl⟩
  rw [hnz]
  have hnz64 : nz < 64 := by omega
  refine go_Sha5 (k := ?_)
  refine OW_isLoad ?_
  refine OW_loadAt agg_nums rfl (hB0.ext hx02) (allB iv8 l).cells rfl rfl ?_
  obtain ⟨s, hs⟩ : ∃ s, allB iv8 l = s := ⟨_, rfl⟩
  rw [hs] at hB0 ⊢
  refine go_Sha5 (k := ?_)
  refine OW_allocA agg_nums ?_
  intro w3 g5 hb5 hg5 hl5 hx3
  refine go_Sha5 (k := ?_)
  refine OW_storeA agg_nums rfl s.cells rfl rfl hb5 rfl (uv_one _) ?_
  intro w4 hb5' hgr
  have hx04 : Ext w w4 := below_only (hx02.trans' hx3) hgr (by have := hx02.size; omega) (hx02.trans' hx3).size
  have hx24 : Ext w2 w4 := below_only hx3 hgr hg5 hx3.size
  have hb2' : Blk w4 g2 29 (tzS.map bv).toArray := (hb2.ext hx2).ext hx24
  clear hb5 hgr
  refine go_Sha5 (k := ?_)
  have hu : IntKind.u64.wrap (8 * (l.length : Int)) = ((8 * l.length % 18446744073709551616 : Nat) : Int) := by
    rw [show (8 * (l.length : Int)) = ((8 * l.length : Nat) : Int) by omega, wrap_u64]
  have hB4 := hB0.ext hx04
  have hr4 := hr0.ext hx04
  apply CW_anyT 14 [vF _, vF _, vF _, vF (.slice A0 (restB l).length c0), bF [128], vF _, bF (List.replicate nz 0), vF _, vF _, vF _, vF (.int .i64 l.length), vF _, vF (.int .u64 ((8 * l.length % 18446744073709551616 : Nat) : Int)), bF (putL (8 * l.length % 18446744073709551616) 8)]
  case hm => kernel_rfl
  case hac => kernel_rfl
  case hd => kernel_rfl
  case hnd => kernel_rfl
  case hk => kernel_rfl
  case hops =>
    simp only [List.take_succ_cons, List.take_zero]
    refine ⟨?_, ?_⟩
    · refine Obl_of (fun e1 w1 hk => ?_)
      rw [upd_self (hk.out 0 rfl)]
      (first
       | refine OW_moveV (.int _ _) rfl ?_
       | refine OW_moveV (.slice _ _ _) rfl ?_
       | refine OW_moveV (.bool _) rfl ?_
       | refine OW_moveV (.pointer _) rfl ?_
       | refine OW_moveV (.string _) rfl ?_
       | refine OW_moveV (.agg _) rfl ?_
       | refine OW_moveV (.tuple _) rfl ?_
       | refine OW_nil ?_
       | refine thenE_normal ?_
       | refine CW_seq ?_
       | refine CW_region (by kernel_rfl) ?_
       | refine OW_assignV (.int _ _) rfl ?_
       | refine OW_assignV (.slice _ _ _) rfl ?_
       | refine OW_assignV (.bool _) rfl ?_
       | refine OW_assignV (.pointer _) rfl ?_
       | refine OW_assignV (.string _) rfl ?_
       | refine OW_assignV (.agg _) rfl ?_
       | refine OW_assignV (.tuple _) rfl ?_
       | refine OW_addI rfl rfl (by omega) ?_
       | refine OW_subI rfl rfl (by omega) ?_
       | refine OW_mulI rfl rfl (by omega) ?_
       | refine OW_lss rfl rfl ?_
       | refine OW_extract rfl rfl ?_
       | refine OW_gtr rfl rfl ?_
       | refine OW_leq rfl rfl ?_
       | refine OW_geq rfl rfl ?_
       | refine OW_eql rfl rfl ?_
       | refine OW_neq rfl rfl ?_
       | refine OW_not rfl ?_
       | refine OW_pickT rfl _ rfl ?_
       | refine OW_pickF rfl (.bool _) rfl ?_
       | refine OW_pickB rfl rfl rfl ?_
       | refine OW_move ?_
       | refine OW_assign ?_
       | refine OW_pass rfl ?_
       | refine OW_take rfl ?_
       | refine OW_lenS (by first | with_reducible exact und_bytes | with_reducible exact und_bytess) rfl ?_
       | refine OW_convInt (by first | with_reducible exact und_u8 | with_reducible exact und_u64 | with_reducible exact und_int | with_reducible exact und_u32) (by first | with_reducible exact und_u8 | with_reducible exact und_u64 | with_reducible exact und_int | with_reducible exact und_u32) rfl ?_
       | refine OW_add rfl rfl ?_
       | refine OW_sub rfl rfl ?_
       | refine OW_mul rfl rfl ?_
       | refine OW_min2 rfl rfl ?_
       | refine OW_max2 rfl rfl ?_
       | refine OW_neg rfl ?_
       | refine CW_block ?_
       | refine CW_condT rfl ?_
       | refine CW_condF rfl ?_
       | refine CW_exit ?_
       | refine CW_ret ?_
       | refine CW_skip ?_
       | refine LW_seq ?_
       | refine LW_regC ?_
       | refine LW_condC ?_
       | refine LW_regF ?_
       | refine LW_condF ?_
       | refine FW_seq ?_
       | refine FW_region (by kernel_rfl) ?_
       | refine FW_block ?_
       | refine FW_condT rfl ?_
       | refine FW_condF rfl ?_
       | refine FW_exit ?_
       | refine FW_ret ?_
       | refine FW_skip ?_
       | refine LW_ret ?_
       | refine LW_skip ?_
       | refine thenE_exit ?_
       | refine thenE_ret ?_
       | refine inBlockE_normal ?_
       | refine inBlockE_same ?_
       | refine inBlockE_ret ?_
       | refine inBlockE_ne (by rfl) ?_
       | refine OW_eqlB (by with_reducible exact und_bool) rfl rfl ?_
       | refine OW_neqB (by with_reducible exact und_bool) rfl rfl ?_
       | refine OW_idxS (by with_reducible exact und_bytes) one_u8 rfl rfl _ rfl (by omega) ?_
       | refine OW_idxS (by with_reducible exact und_bytess) one_bytes rfl rfl _ rfl (by omega) ?_
       | refine OW_load1 (by first | with_reducible exact one_u8 | with_reducible exact one_bytes) rfl _ (by assumption) ?_
       | refine OW_load1 (by with_reducible exact one_u8) rfl _ (hk.ext.cell' (by assumption)) ?_)
      refine OW_nil ?_
      exact keepsF_mk _ _ _ _
    refine ⟨?_, ?_⟩
    · refine Obl_of (fun e1 w1 hk => ?_)
      rw [upd_self (hk.pre 0 24 rfl rfl : isV _ _ _)]
      refine OW_nilCheck rfl ?_
      refine OW_nil ?_
      exact keepsF_mk _ _ _ _
    refine ⟨?_, ?_⟩
    · refine Obl_of (fun e1 w1 hk => ?_)
      rw [upd_self (hk.pre 1 25 rfl rfl : isV _ _ _)]
      refine OW_fieldB fldo_H2 rfl ?_
      refine OW_nil ?_
      exact keepsF_mk _ _ _ _
    refine ⟨?_, ?_⟩
    · refine Obl_of (fun e1 w1 hk => ?_)
      rw [upd_self (hk.pre 2 26 rfl rfl : isV _ _ _)]
      refine OW_loadBk one_bytes rfl (hB4.ext hk.ext) (.slice A0 (restB l).length c0) rfl ?_
      refine OW_nil ?_
      exact keepsF_mk _ _ _ _
    refine ⟨?_, ?_⟩
    · refine Obl_of (fun e1 w1 hk => ?_)
      refine OW_lit [bv 128] und_bytes info_u8 rfl rfl (by simp [bv, Value.oneCell']) (by decide) ?_
      intro w6 g6 hb6 hg6 hx6
      refine OW_nil ?_
      exact keepsF_bs _ _ _ _ [128] _ _ hx6 (Nat.le_refl _) hb6.rd
    refine ⟨?_, ?_⟩
    · refine Obl_of (fun e1 w1 hk => ?_)
      rw [upd_self (hk.out 4 rfl)]
      (first
       | refine OW_moveV (.int _ _) rfl ?_
       | refine OW_moveV (.slice _ _ _) rfl ?_
       | refine OW_moveV (.bool _) rfl ?_
       | refine OW_moveV (.pointer _) rfl ?_
       | refine OW_moveV (.string _) rfl ?_
       | refine OW_moveV (.agg _) rfl ?_
       | refine OW_moveV (.tuple _) rfl ?_
       | refine OW_nil ?_
       | refine thenE_normal ?_
       | refine CW_seq ?_
       | refine CW_region (by kernel_rfl) ?_
       | refine OW_assignV (.int _ _) rfl ?_
       | refine OW_assignV (.slice _ _ _) rfl ?_
       | refine OW_assignV (.bool _) rfl ?_
       | refine OW_assignV (.pointer _) rfl ?_
       | refine OW_assignV (.string _) rfl ?_
       | refine OW_assignV (.agg _) rfl ?_
       | refine OW_assignV (.tuple _) rfl ?_
       | refine OW_addI rfl rfl (by omega) ?_
       | refine OW_subI rfl rfl (by omega) ?_
       | refine OW_mulI rfl rfl (by omega) ?_
       | refine OW_lss rfl rfl ?_
       | refine OW_extract rfl rfl ?_
       | refine OW_gtr rfl rfl ?_
       | refine OW_leq rfl rfl ?_
       | refine OW_geq rfl rfl ?_
       | refine OW_eql rfl rfl ?_
       | refine OW_neq rfl rfl ?_
       | refine OW_not rfl ?_
       | refine OW_pickT rfl _ rfl ?_
       | refine OW_pickF rfl (.bool _) rfl ?_
       | refine OW_pickB rfl rfl rfl ?_
       | refine OW_move ?_
       | refine OW_assign ?_
       | refine OW_pass rfl ?_
       | refine OW_take rfl ?_
       | refine OW_lenS (by first | with_reducible exact und_bytes | with_reducible exact und_bytess) rfl ?_
       | refine OW_convInt (by first | with_reducible exact und_u8 | with_reducible exact und_u64 | with_reducible exact und_int | with_reducible exact und_u32) (by first | with_reducible exact und_u8 | with_reducible exact und_u64 | with_reducible exact und_int | with_reducible exact und_u32) rfl ?_
       | refine OW_add rfl rfl ?_
       | refine OW_sub rfl rfl ?_
       | refine OW_mul rfl rfl ?_
       | refine OW_min2 rfl rfl ?_
       | refine OW_max2 rfl rfl ?_
       | refine OW_neg rfl ?_
       | refine CW_block ?_
       | refine CW_condT rfl ?_
       | refine CW_condF rfl ?_
       | refine CW_exit ?_
       | refine CW_ret ?_
       | refine CW_skip ?_
       | refine LW_seq ?_
       | refine LW_regC ?_
       | refine LW_condC ?_
       | refine LW_regF ?_
       | refine LW_condF ?_
       | refine FW_seq ?_
       | refine FW_region (by kernel_rfl) ?_
       | refine FW_block ?_
       | refine FW_condT rfl ?_
       | refine FW_condF rfl ?_
       | refine FW_exit ?_
       | refine FW_ret ?_
       | refine FW_skip ?_
       | refine LW_ret ?_
       | refine LW_skip ?_
       | refine thenE_exit ?_
       | refine thenE_ret ?_
       | refine inBlockE_normal ?_
       | refine inBlockE_same ?_
       | refine inBlockE_ret ?_
       | refine inBlockE_ne (by rfl) ?_
       | refine OW_eqlB (by with_reducible exact und_bool) rfl rfl ?_
       | refine OW_neqB (by with_reducible exact und_bool) rfl rfl ?_
       | refine OW_idxS (by with_reducible exact und_bytes) one_u8 rfl rfl _ rfl (by omega) ?_
       | refine OW_idxS (by with_reducible exact und_bytess) one_bytes rfl rfl _ rfl (by omega) ?_
       | refine OW_load1 (by first | with_reducible exact one_u8 | with_reducible exact one_bytes) rfl _ (by assumption) ?_
       | refine OW_load1 (by with_reducible exact one_u8) rfl _ (hk.ext.cell' (by assumption)) ?_)
      refine OW_nil ?_
      exact keepsF_mk _ _ _ _
    refine ⟨?_, ?_⟩
    · refine Obl_of (fun e1 w1 hk => ?_)
      rw [upd_self (hk.pre 5 29 rfl rfl : isV _ _ _)]
      refine OW_make und_bytes info_u8 rfl rfl rfl rfl rfl (by omega) (by unfold maxLen; omega) ?_
      intro w6 g6 hb6 hg6 hx6
      refine OW_nil ?_
      exact keepsF_zeros _ _ _ _ _ _ hx6 hb6
    refine ⟨?_, ?_⟩
    · refine Obl_of (fun e1 w1 hk => ?_)
      rw [upd_self (hk.out 0 rfl)]
      (first
       | refine OW_moveV (.int _ _) rfl ?_
       | refine OW_moveV (.slice _ _ _) rfl ?_
       | refine OW_moveV (.bool _) rfl ?_
       | refine OW_moveV (.pointer _) rfl ?_
       | refine OW_moveV (.string _) rfl ?_
       | refine OW_moveV (.agg _) rfl ?_
       | refine OW_moveV (.tuple _) rfl ?_
       | refine OW_nil ?_
       | refine thenE_normal ?_
       | refine CW_seq ?_
       | refine CW_region (by kernel_rfl) ?_
       | refine OW_assignV (.int _ _) rfl ?_
       | refine OW_assignV (.slice _ _ _) rfl ?_
       | refine OW_assignV (.bool _) rfl ?_
       | refine OW_assignV (.pointer _) rfl ?_
       | refine OW_assignV (.string _) rfl ?_
       | refine OW_assignV (.agg _) rfl ?_
       | refine OW_assignV (.tuple _) rfl ?_
       | refine OW_addI rfl rfl (by omega) ?_
       | refine OW_subI rfl rfl (by omega) ?_
       | refine OW_mulI rfl rfl (by omega) ?_
       | refine OW_lss rfl rfl ?_
       | refine OW_extract rfl rfl ?_
       | refine OW_gtr rfl rfl ?_
       | refine OW_leq rfl rfl ?_
       | refine OW_geq rfl rfl ?_
       | refine OW_eql rfl rfl ?_
       | refine OW_neq rfl rfl ?_
       | refine OW_not rfl ?_
       | refine OW_pickT rfl _ rfl ?_
       | refine OW_pickF rfl (.bool _) rfl ?_
       | refine OW_pickB rfl rfl rfl ?_
       | refine OW_move ?_
       | refine OW_assign ?_
       | refine OW_pass rfl ?_
       | refine OW_take rfl ?_
       | refine OW_lenS (by first | with_reducible exact und_bytes | with_reducible exact und_bytess) rfl ?_
       | refine OW_convInt (by first | with_reducible exact und_u8 | with_reducible exact und_u64 | with_reducible exact und_int | with_reducible exact und_u32) (by first | with_reducible exact und_u8 | with_reducible exact und_u64 | with_reducible exact und_int | with_reducible exact und_u32) rfl ?_
       | refine OW_add rfl rfl ?_
       | refine OW_sub rfl rfl ?_
       | refine OW_mul rfl rfl ?_
       | refine OW_min2 rfl rfl ?_
       | refine OW_max2 rfl rfl ?_
       | refine OW_neg rfl ?_
       | refine CW_block ?_
       | refine CW_condT rfl ?_
       | refine CW_condF rfl ?_
       | refine CW_exit ?_
       | refine CW_ret ?_
       | refine CW_skip ?_
       | refine LW_seq ?_
       | refine LW_regC ?_
       | refine LW_condC ?_
       | refine LW_regF ?_
       | refine LW_condF ?_
       | refine FW_seq ?_
       | refine FW_region (by kernel_rfl) ?_
       | refine FW_block ?_
       | refine FW_condT rfl ?_
       | refine FW_condF rfl ?_
       | refine FW_exit ?_
       | refine FW_ret ?_
       | refine FW_skip ?_
       | refine LW_ret ?_
       | refine LW_skip ?_
       | refine thenE_exit ?_
       | refine thenE_ret ?_
       | refine inBlockE_normal ?_
       | refine inBlockE_same ?_
       | refine inBlockE_ret ?_
       | refine inBlockE_ne (by rfl) ?_
       | refine OW_eqlB (by with_reducible exact und_bool) rfl rfl ?_
       | refine OW_neqB (by with_reducible exact und_bool) rfl rfl ?_
       | refine OW_idxS (by with_reducible exact und_bytes) one_u8 rfl rfl _ rfl (by omega) ?_
       | refine OW_idxS (by with_reducible exact und_bytess) one_bytes rfl rfl _ rfl (by omega) ?_
       | refine OW_load1 (by first | with_reducible exact one_u8 | with_reducible exact one_bytes) rfl _ (by assumption) ?_
       | refine OW_load1 (by with_reducible exact one_u8) rfl _ (hk.ext.cell' (by assumption)) ?_)
      refine OW_nil ?_
      exact keepsF_mk _ _ _ _
    refine ⟨?_, ?_⟩
    · refine Obl_of (fun e1 w1 hk => ?_)
      rw [upd_self (hk.pre 7 31 rfl rfl : isV _ _ _)]
      refine OW_nilCheck rfl ?_
      refine OW_nil ?_
      exact keepsF_mk _ _ _ _
    refine ⟨?_, ?_⟩
    · refine Obl_of (fun e1 w1 hk => ?_)
      rw [upd_self (hk.pre 8 32 rfl rfl : isV _ _ _)]
      refine OW_fieldB fldo_H3 rfl ?_
      refine OW_nil ?_
      exact keepsF_mk _ _ _ _
    refine ⟨?_, ?_⟩
    · refine Obl_of (fun e1 w1 hk => ?_)
      rw [upd_self (hk.pre 9 33 rfl rfl : isV _ _ _)]
      refine OW_loadBk s_int rfl (hB4.ext hk.ext) (.int .i64 l.length) rfl ?_
      refine OW_nil ?_
      exact keepsF_mk _ _ _ _
    refine ⟨?_, ?_⟩
    · refine Obl_of (fun e1 w1 hk => ?_)
      rw [upd_self (hk.pre 10 34 rfl rfl : isV _ _ _)]
      (first
       | refine OW_moveV (.int _ _) rfl ?_
       | refine OW_moveV (.slice _ _ _) rfl ?_
       | refine OW_moveV (.bool _) rfl ?_
       | refine OW_moveV (.pointer _) rfl ?_
       | refine OW_moveV (.string _) rfl ?_
       | refine OW_moveV (.agg _) rfl ?_
       | refine OW_moveV (.tuple _) rfl ?_
       | refine OW_nil ?_
       | refine thenE_normal ?_
       | refine CW_seq ?_
       | refine CW_region (by kernel_rfl) ?_
       | refine OW_assignV (.int _ _) rfl ?_
       | refine OW_assignV (.slice _ _ _) rfl ?_
       | refine OW_assignV (.bool _) rfl ?_
       | refine OW_assignV (.pointer _) rfl ?_
       | refine OW_assignV (.string _) rfl ?_
       | refine OW_assignV (.agg _) rfl ?_
       | refine OW_assignV (.tuple _) rfl ?_
       | refine OW_addI rfl rfl (by omega) ?_
       | refine OW_subI rfl rfl (by omega) ?_
       | refine OW_mulI rfl rfl (by omega) ?_
       | refine OW_lss rfl rfl ?_
       | refine OW_extract rfl rfl ?_
       | refine OW_gtr rfl rfl ?_
       | refine OW_leq rfl rfl ?_
       | refine OW_geq rfl rfl ?_
       | refine OW_eql rfl rfl ?_
       | refine OW_neq rfl rfl ?_
       | refine OW_not rfl ?_
       | refine OW_pickT rfl _ rfl ?_
       | refine OW_pickF rfl (.bool _) rfl ?_
       | refine OW_pickB rfl rfl rfl ?_
       | refine OW_move ?_
       | refine OW_assign ?_
       | refine OW_pass rfl ?_
       | refine OW_take rfl ?_
       | refine OW_lenS (by first | with_reducible exact und_bytes | with_reducible exact und_bytess) rfl ?_
       | refine OW_convInt (by first | with_reducible exact und_u8 | with_reducible exact und_u64 | with_reducible exact und_int | with_reducible exact und_u32) (by first | with_reducible exact und_u8 | with_reducible exact und_u64 | with_reducible exact und_int | with_reducible exact und_u32) rfl ?_
       | refine OW_add rfl rfl ?_
       | refine OW_sub rfl rfl ?_
       | refine OW_mul rfl rfl ?_
       | refine OW_min2 rfl rfl ?_
       | refine OW_max2 rfl rfl ?_
       | refine OW_neg rfl ?_
       | refine CW_block ?_
       | refine CW_condT rfl ?_
       | refine CW_condF rfl ?_
       | refine CW_exit ?_
       | refine CW_ret ?_
       | refine CW_skip ?_
       | refine LW_seq ?_
       | refine LW_regC ?_
       | refine LW_condC ?_
       | refine LW_regF ?_
       | refine LW_condF ?_
       | refine FW_seq ?_
       | refine FW_region (by kernel_rfl) ?_
       | refine FW_block ?_
       | refine FW_condT rfl ?_
       | refine FW_condF rfl ?_
       | refine FW_exit ?_
       | refine FW_ret ?_
       | refine FW_skip ?_
       | refine LW_ret ?_
       | refine LW_skip ?_
       | refine thenE_exit ?_
       | refine thenE_ret ?_
       | refine inBlockE_normal ?_
       | refine inBlockE_same ?_
       | refine inBlockE_ret ?_
       | refine inBlockE_ne (by rfl) ?_
       | refine OW_eqlB (by with_reducible exact und_bool) rfl rfl ?_
       | refine OW_neqB (by with_reducible exact und_bool) rfl rfl ?_
       | refine OW_idxS (by with_reducible exact und_bytes) one_u8 rfl rfl _ rfl (by omega) ?_
       | refine OW_idxS (by with_reducible exact und_bytess) one_bytes rfl rfl _ rfl (by omega) ?_
       | refine OW_load1 (by first | with_reducible exact one_u8 | with_reducible exact one_bytes) rfl _ (by assumption) ?_
       | refine OW_load1 (by with_reducible exact one_u8) rfl _ (hk.ext.cell' (by assumption)) ?_)
      refine OW_nil ?_
      exact keepsF_mk _ _ _ _
    refine ⟨?_, ?_⟩
    · refine Obl_of (fun e1 w1 hk => ?_)
      rw [upd_self (hk.pre 11 35 rfl rfl : isV _ _ _)]
      refine OW_convInt und_int und_u64 rfl ?_
      rw [hu]
      refine OW_nil ?_
      exact keepsF_mk _ _ _ _
    refine ⟨?_, ?_⟩
    · refine Obl_of (fun e1 w1 hk => ?_)
      rw [upd_self (hk.pre 12 36 rfl rfl : isV _ _ _)]
      refine OW_callBs Try.func65 (by kernel_rfl) rfl (put64_any _ (8 * l.length % 18446744073709551616) (by omega)) rfl ?_
      intro w9 A9 c9 h9
      refine OW_nil ?_
      exact keepsF_bs _ _ _ _ _ _ _ h9.ext h9.cap h9.bs
    trivial
  case h =>
    intro e1 w1 hw1 hout hall
    rw [upd_self (hout 0 rfl), upd_self (hout 2 rfl), upd_self (hout 5 rfl), upd_self (hall 3 27 rfl : isV _ _ _)]
    obtain ⟨A28, c28, q28, z28, b28⟩ := (hall 4 28 rfl : isBs _ _ _)
    obtain ⟨A30, c30, q30, z30, b30⟩ := (hall 6 30 rfl : isBs _ _ _)
    obtain ⟨A37, c37, q37, z37, b37⟩ := (hall 13 37 rfl : isBs _ _ _)
    rw [upd_self q28, upd_self q30, upd_self q37]
    simp only [List.drop_succ_cons, List.drop_zero]
    refine OW_lit [.slice A0 (restB l).length c0, .slice A28 [(128 : UInt8)].length c28, .slice A30 (List.replicate nz (0 : UInt8)).length c30, .slice A37 (putL (8 * l.length % 18446744073709551616) 8).length c37] und_bytess info_bytes rfl rfl (by simp [Value.oneCell']) (by decide) ?_
    intro w3 g3 hb3 hg3 hx3
    have htl : [(128 : UInt8)] ++ (List.replicate nz (0 : UInt8) ++ putL (8 * l.length % 18446744073709551616) 8) = tailB l.length := by unfold tailB; rw [hnz]; rfl
    have hcat := cat_any w3 (some ⟨g3, 0, none⟩) 4 [(A0, c0, restB l), (A28, c28, [128]), (A30, c30, List.replicate nz 0), (A37, c37, putL (8 * l.length % 18446744073709551616) 8)] hb3.rd (fun x hx => by
      simp only [List.mem_cons, List.not_mem_nil, or_false] at hx
      rcases hx with rfl | rfl | rfl | rfl
      · exact (hr4.ext hw1).ext hx3
      · exact b28.ext hx3
      · exact b30.ext hx3
      · exact b37.ext hx3) (by simp) (by simp [flat, putL_length]; omega)
    have hfl : flat [(A0, c0, restB l), (A28, c28, [128]), (A30, c30, List.replicate nz 0), (A37, c37, putL (8 * l.length % 18446744073709551616) 8)] = restB l ++ tailB l.length := by
      rw [← htl]
      simp [flat]
    rw [hfl] at hcat
    clear hfl htl q28 q30 q37 b28 b30 b37 z28 z30 z37 hout hall
    refine go_Sha5 (k := ?_)
    refine OW_callBs Try.func20 (by kernel_rfl) rfl hcat rfl ?_
    intro w5 A4 c4 hf4
    have hsh : allB s (restB l ++ tailB l.length) = shaN l := by rw [← hs]; exact (shaN_rest l).symm
    obtain ⟨L, hLe⟩ : ∃ L, restB l ++ tailB l.length = L := ⟨_, rfl⟩
    rw [hLe] at hf4 hsh ⊢
    refine go_Sha5 (k := ?_)
    refine OW_callC Try.func63 (by kernel_rfl) rfl (blocks_any w5 A4 L.length c4) rfl ?_
    rintro en w6 ⟨gB, rfl, hbB, hgB, hx6⟩
    refine ⟨_, rfl, ?_⟩
    refine go_Sha5 (k := ?_)
    have hcap := own_cap hf4.own
    have hbk := own_block hf4.own
    have hA4 : ∀ ad, A4 = some ad → ad.block ≠ gB := fun ad ha => by have := (hbk ad ha).2; omega
    have hbs4 : Bs w6 A4 L := hf4.bs.ext hx6
    have hx35 := hf4.ext
    have hx46 : Ext w4 w6 := ((hw1.trans' hx3).trans' hx35).trans' hx6
    have hx06 : Ext w w6 := hx04.trans' hx46
    have h2b := hb2'.ext hx46
    have h5b := hb5'.ext hx46
    have s5 := ((hw1.trans' hx3).trans' hx35).size
    have s13 := (hw1.trans' hx3).size
    have s24 := hx24.size
    have s6 := hx06.size
    have s56 := hx6.size
    have s02 := hx02.size
    have s12 := hx2.size
    have n25 : g2 ≠ g5 := by omega
    have l5 := hb5'.lt
    have l2 := hb2'.lt
    have lB := hbB.lt
    refine LW_forget [2, 5, 40] ?_
    intro e5 h5
    have q2 : e5 2 = .pointer (some ⟨g2, 0, none⟩) := h5 2 (by decide)
    have q5 : e5 5 = .pointer (some ⟨g5, 0, none⟩) := h5 5 (by decide)
    have q40 : e5 40 = .func (.func 95) #[] #[.pointer (some ⟨gB, 0, none⟩)] := h5 40 (by decide)
    clear h5
    rw [upd_self q2, upd_self q5, upd_self q40]
    have hN : ∀ k, nB L gB A4 k → k = gB ∨ w3.heap.size ≤ k := fun k hk => by
      rcases hk with h | ⟨_, ad, ha, rfl⟩
      · exact .inl h
      · exact .inr (hbk ad ha).1
    refine LW_range (ps := [41]) (blocks_iter L gB A4 c4) Try.func95 (by kernel_rfl) rfl rfl (fun x => rfl) (by decide) (fun k hk => by omega) (fun k hk => ?_) (fun W hW => ⟨hbB.ext hW, hbs4.ext hW, hcap.1, hA4⟩)
      (fun xs W => Blk W g5 94 (runB s L xs.length).cells.toArray ∧ Keeps w6 W (fun k => k = g5 ∨ k = gB)) (fun _ _ _ => False) ?_ (fun _ _ _ _ h _ => h) ⟨h5b, Keeps.rfl' _ _⟩
      (fun x => upd (upd (upd (upd (upd e5 40 (.func (.func 95) #[] #[.pointer (some ⟨gB, 0, none⟩)])) 5 (.pointer (some ⟨g5, 0, none⟩))) 2 (.pointer (some ⟨g2, 0, none⟩))) 41 (sv x)) 6 (sv x)) ?_ ?_ ?_ (fun c pre W _ h _ => h.elim)
    · rcases hk with h | ⟨_, ad, ha, rfl⟩
      · omega
      · have := (hbk ad ha).2; omega
    · rintro xs W1 W2 ⟨h1, h2⟩ hk
      refine ⟨h1.keeps hk (by rintro (h | h | h) <;> omega), keeps_loop h2 hk (fun k h => .inr h)⟩
    · intro x l2 W
      unfold binds binds
      refine go_Sha5 (k := ?_)
      exact ⟨rfl, rfl, rfl⟩
    · rintro l2 pre ⟨Ax, cx, lx⟩ W ⟨h1, h2⟩ ⟨k1, k2, k3, k4, k5⟩
      have k2 : lx = chunk L pre.length := k2
      have k4 : lx.length ≤ cx := by have := chunk_length k3; rw [k2, this]; exact k4
      have hlx : lx.length = 64 := by rw [k2]; exact chunk_length k3
      have hsx : sv (Ax, cx, lx) = .slice Ax lx.length cx := rfl
      rw [hsx]
      have hrn : runB s L (pre.length + 1) = blk (runB s L pre.length) lx := by rw [k2]; rfl
      obtain ⟨s2, hs2⟩ : ∃ s2, runB s L pre.length = s2 := ⟨_, rfl⟩
      rw [hs2] at h1 hrn
      refine go_Sha5 (k := ?_)
      refine OW_loadAB agg_nums rfl s2.cells h1 rfl ?_
      refine go_Sha5 (k := ?_)
      refine OW_callV Try.func64 (by kernel_rfl) rfl (block_any W s2 Ax cx lx k1 k4 hlx) rfl ?_
      intro w7 hx7
      refine go_Sha5 (k := ?_)
      refine OW_storeA agg_nums rfl (blk s2 lx).cells rfl rfl (h1.ext hx7) rfl (uv_one _) ?_
      intro w8 hB8 hgr
      refine go_Sha5 (k := ?_)
      have s8 := h2.size
      have hk8 : Keeps W w8 (· = g5) := (Keeps.of_ext hx7 _).trans' (Keeps.of_only hgr rfl)
      refine ⟨hk8.mono fun k _ hk => ?_, ?_, h2.trans' (hk8.mono fun k _ hk => .inl hk)⟩
      · subst hk
        refine ⟨fun hn => ?_, by omega, by omega⟩
        rcases hN _ hn with h | h <;> omega
      · rw [List.length_append]
        show Blk w8 g5 94 (runB s L (pre.length + 1)).cells.toArray
        rw [hrn]
        exact hB8
    · rintro xs W hS ⟨h1, h2⟩ hD
      have hS : xs.length = L.length / 64 := hS
      have hrun : runB s L (L.length / 64) = shaN l := hsh
      rw [hS, hrun] at h1
      have hsW := h2.size
      have h2W := h2b.keeps h2 (by rintro (h | h) <;> omega)
      refine go_Sha5 (k := ?_)
      refine OW_allocA s_agg_Tag ?_
      intro w7 g7 hb7 hg7 hl7 hx7
      refine go_Sha5 (k := ?_)
      refine OW_loadAB agg_nums rfl (shaN l).cells (h1.ext hx7) rfl ?_
      obtain ⟨z, hz2⟩ : ∃ z, shaN l = z := ⟨_, rfl⟩
      rw [hz2] at h1 ⊢
      refine go_Sha5 (k := ?_)
      have s7 := hx7.size
      have h2W7 := h2W.ext hx7
      have hD7 : w7.heap[w6.heap.size]? = some (.deferred (some [])) := by rw [hx7.block _ (Array.getElem?_eq_some_iff.1 hD).1]; exact hD
      refine LW_codeF (FW_meet (fun e' w' => e' 2 = .pointer (some ⟨g2, 0, none⟩) ∧ e' 7 = .pointer (some ⟨g7, 0, none⟩) ∧ Blk w' g7 29 ((outB z).map bv).toArray ∧ Ext W w') ?_ ?_)
      · refine go_Sha5 (k := ?_)
        refine FW_loop (fun e' w' => ∃ k : Nat, k ≤ 8 ∧ e' 2 = .pointer (some ⟨g2, 0, none⟩) ∧ e' 7 = .pointer (some ⟨g7, 0, none⟩) ∧ e' 45 = .agg z.cells.toArray ∧ e' 46 = .int .i64 k ∧ Blk w' g7 29 ((outK z k).map bv).toArray ∧ Ext W w') (fun e' _ => 8 - (intOf (e' 46)).toNat) ?_ ?_
        · exact ⟨0, by omega, rfl, rfl, rfl, rfl, by rw [outK_0]; exact hb7, hx7⟩
        rintro e' w' ⟨k, hk, q2, q7, q45, q46, r7, hx⟩
        rw [upd_self q2, upd_self q7, upd_self q45, upd_self q46]
        clear q2 q7 q45 q46
        refine go_Sha5 (k := ?_)
        refine FW_cond _ rfl (fun hh => ?_) (fun hh => ?_)
        · have hlt : k < 8 := by simp at hh; omega
          clear hh
          refine go_Sha5 (k := ?_)
          refine OW_indexA und_nums one_u32 rfl rfl k rfl hlt (uv (z.l.getD k 0)) (cells_get hlt) ?_
          obtain ⟨x, hx2⟩ : ∃ x, z.l.getD k 0 = x := ⟨_, rfl⟩
          rw [hx2]
          refine go_Sha5 (k := ?_)
          obtain ⟨C, hC⟩ : ∃ C : World → Prop, C = fun v => Ext w' v := ⟨_, rfl⟩
          refine FW_tree2 [] (.p 0 (.p 1 (.p 2 (.p 3 (.d 4 (.d 5 .done)))))) (C) (by kernel_rfl) (by kernel_rfl) (by kernel_rfl) ?_ ?_
          · exact fun v hv => by rw [hC]; exact hv
          intro w8 hx8 hC8
          refine oy_Sha5 (k := ?_)
          apply OY_p _ rfl
          · intro wd
            refine OW_sliceA s_und_Tag one_u8 rfl ⟨_, rfl⟩ rfl (4 * k) 32 (by omega) rfl (by omega) (by decide) (by omega) ?_
            refine OW_nil ?_
            exact stay_mk _ _ _ _
          refine oy_Sha5 (k := ?_)
          refine OW_callBs Try.func66 (by kernel_rfl) rfl (put32_any _ x.toNat (u32_lt x)) rfl ?_
          intro w9 A9 c9 hf9
          obtain ⟨g9, cur, rfl, hg9, hb9, _⟩ := own_blk hf9.own (by rw [putL_length]; decide)
          rw [hC] at hC8
          have hx9 := hC8.trans' hf9.ext
          have hC9 : C w9 := by rw [hC]; exact hx9
          refine OW_nil (goY_drop C hC9 ?_)
          refine oy_Sha5 (k := ?_)
          have r7' := r7.ext hx9
          refine OW_copyR und_bytes one_u8 rfl rfl r7' ((putL x.toNat 4).map bv) hf9.bs.atL (by rw [List.length_map, putL_length]; exact (Nat.min_eq_left (show 4 ≤ 32 - 4 * k by omega)).symm) (by simp [putL_length, outK_length z hk]; omega) (bv_one _) ?_
          intro w10 r7'' hgr
          have hstep := outK_step z hlt
          rw [hx2] at hstep
          have r8 : Blk w10 g7 29 ((outK z (k + 1)).map bv).toArray := by
            rw [← hstep, List.map_append, List.map_append, List.map_take, List.map_drop]
            rw [List.length_map, putL_length] at r7''
            exact r7''
          refine OW_nil (goY_done ?_)
          refine go_Sha5 (k := ?_)
          refine ⟨⟨k + 1, hlt, rfl, rfl, rfl, rfl, r8, below_only (hx.trans' hx9) hgr (by omega) (hx.trans' hx9).size⟩, ?_⟩
          show 8 - ((k : Int) + 1).toNat < 8 - (k : Int).toNat
          omega
        · have hlt : k = 8 := by simp at hh; omega
          subst hlt
          rw [outK_8] at r7
          refine go_Sha5 (k := ?_)
          exact ⟨rfl, rfl, rfl, r7, hx⟩
      · rintro e' w' ⟨q2, q7, r7, hx⟩
        rw [upd_self q2, upd_self q7]
        refine go_Sha5 (k := ?_)
        refine OW_loadAB s_agg_Tag rfl ((outB z).map bv) r7 (by rw [List.length_map, outB_length]) ?_
        refine go_Sha5 (k := ?_)
        have h2W' := h2W.ext hx
        refine OW_storeA s_agg_Tag rfl ((outB z).map bv) rfl (by rw [List.length_map, outB_length]) h2W' rfl (bv_one _) ?_
        intro w8 h8 hgr
        have s8 := hx.size
        have hkW8 : Keeps W w8 (· = g2) := (Keeps.of_ext hx _).trans' (Keeps.of_only hgr rfl)
        have hD8 : w8.heap[w6.heap.size]? = some (.deferred (some [])) := by
          rw [hkW8.block _ (Array.getElem?_eq_some_iff.1 hD).1 (by omega)]; exact hD
        refine go_Sha5 (k := ?_)
        have hkD : Keeps w8 (w8.putObj w6.heap.size (.deferred none)) (· = w6.heap.size) := Keeps.put _ _ _
        have hsl : outB z = shaL l := by unfold shaL; rw [hz2]
        refine leaveM_of hD8 (bodyE_retc2 rfl s_agg_Tag rfl ((outB z).map bv) (.int .i64 0) rfl (by rw [List.length_map, outB_length]) (h8.keeps hkD (by omega)).range ⟨by rw [hsl], ?_⟩)
        have hk68 : Keeps w6 w8 (fun k => k = g5 ∨ k = gB ∨ k = g2) := (h2.mono fun k _ h => by rcases h with h | h; exact .inl h; exact .inr (.inl h)).trans' (hkW8.mono fun k _ h => .inr (.inr h))
        have hk69 := keeps_loop (T := fun _ => False) hk68 (hkD.mono fun k _ hk => .inr (.inl hk)) (fun k hk => hk.elim)
        exact hk69.ext hx06 (fun k hk => by rcases hk with h | h | h <;> omega)
set_option maxHeartbeats 8000000 in
theorem shaSum_any (w : World) (A : Option Addr) (c : Nat) (b : List UInt8) (hb : Bs w A b) (hl : b.length ≤ 1000000) :
    Calls Try.prog 19 #[.slice A b.length c] w (RetV w (.agg ((shaL b).map bv).toArray)) := by
  refine calls_of_CW Try.func19 rfl (by simp [Try.ntmps19]) ?_
  rw [Try.ntmps19]
  refine go_Sha5 (k := ?_)
  refine OW_allocA s_agg_Tag ?_
  intro w1 g2 hb2 hg2 hl2 hx1
  refine go_Sha5 (k := ?_)
  refine OW_callC Try.func15 (by kernel_rfl) rfl (newHash_any w1) rfl ?_
  rintro en w2 ⟨g, rfl, hg, hx2, hr2⟩
  refine ⟨_, rfl, ?_⟩
  refine go_Sha5 (k := ?_)
  refine OW_callC Try.func16 (by kernel_rfl) rfl (hwrite_any w2 g _ [] hr2 A c b (hb.ext (hx1.trans' hx2)) (by simpa using hl)) rfl ?_
  rintro en w3 ⟨rfl, hr3, hk3⟩
  refine ⟨_, rfl, ?_⟩
  have hx13 : Ext w1 w3 := hk3.ext hx2 (fun k hk => by rcases hk with h | h; exact h.elim; exact h.1)
  refine go_Sha5 (k := ?_)
  refine OW_callV Try.func17 (by kernel_rfl) rfl (hsum_any w3 g _ _ hr3 (by simpa using hl)) rfl ?_
  intro w4 hx4
  rw [List.nil_append]
  refine go_Sha5 (k := ?_)
  refine OW_allocA s_agg_Tag ?_
  intro w5 g4 hb4 hg4 hl4 hx5
  refine go_Sha5 (k := ?_)
  have hlen : ((shaL b).map bv).length = 32 := by rw [List.length_map, shaL_length]
  refine OW_storeA s_agg_Tag rfl ((shaL b).map bv) rfl hlen hb4 rfl (bv_one _) ?_
  intro w6 hb6 hgr6
  have hx15 := (hx13.trans' hx4).trans' hx5
  have hx16 : Ext w1 w6 := below_only hx15 hgr6 (by have := (hx13.trans' hx4).size; omega) hx15.size
  refine go_Sha5 (k := ?_)
  refine OW_loadAB s_agg_Tag rfl ((shaL b).map bv) hb6 hlen ?_
  refine go_Sha5 (k := ?_)
  refine OW_storeA s_agg_Tag rfl ((shaL b).map bv) rfl hlen (hb2.ext hx16) rfl (bv_one _) ?_
  intro w7 hb7 hgr7
  refine go_Sha5 (k := ?_)
  exact bodyE_retc rfl s_agg_Tag rfl ((shaL b).map bv) hlen hb7.range ⟨rfl, below_only (hx1.trans' hx16) hgr7 hg2 (hx1.trans' hx16).size⟩
end Go.Proofs.Ytdpcahfgdpikfaa

/- Walk: the reference 01's Put. -/
namespace Go.Proofs.Ytdpcahfgdpikfaa
open Go Go.RowKit
set_option linter.unusedVariables false
theorem go_RefPut {A B : Prop} (h : Held B → A := by
  intro hEnd
  repeat (first | refine OW_moveV (.int _ _) rfl ?_ | refine OW_moveV (.slice _ _ _) rfl ?_ | refine OW_moveV (.bool _) rfl ?_ | refine OW_moveV (.pointer _) rfl ?_ | refine OW_moveV (.string _) rfl ?_ | refine OW_moveV (.agg _) rfl ?_ | refine OW_moveV (.tuple _) rfl ?_ | refine OW_nil ?_ | refine thenE_normal ?_ | refine CW_seq ?_ | refine CW_region (by kernel_rfl) ?_ | refine OW_assignV (.int _ _) rfl ?_ | refine OW_assignV (.slice _ _ _) rfl ?_ | refine OW_assignV (.bool _) rfl ?_ | refine OW_assignV (.pointer _) rfl ?_ | refine OW_assignV (.string _) rfl ?_ | refine OW_assignV (.agg _) rfl ?_ | refine OW_assignV (.tuple _) rfl ?_ | refine OW_addI rfl rfl (by omega) ?_ | refine OW_subI rfl rfl (by omega) ?_ | refine OW_mulI rfl rfl (by omega) ?_ | refine OW_lss rfl rfl ?_ | refine OW_extract rfl rfl ?_ | refine OW_gtr rfl rfl ?_ | refine OW_leq rfl rfl ?_ | refine OW_geq rfl rfl ?_ | refine OW_eql rfl rfl ?_ | refine OW_neq rfl rfl ?_ | refine OW_not rfl ?_ | refine OW_pickT rfl _ rfl ?_ | refine OW_pickF rfl (.bool _) rfl ?_ | refine OW_pickB rfl rfl rfl ?_ | refine OW_move ?_ | refine OW_assign ?_ | refine OW_pass rfl ?_ | refine OW_take rfl ?_ | refine OW_lenS (by first | with_reducible exact und_bytes | with_reducible exact und_bytess) rfl ?_ | refine OW_convInt (by first | with_reducible exact und_u8 | with_reducible exact und_u64 | with_reducible exact und_int | with_reducible exact und_u32) (by first | with_reducible exact und_u8 | with_reducible exact und_u64 | with_reducible exact und_int | with_reducible exact und_u32) rfl ?_ | refine OW_add rfl rfl ?_ | refine OW_sub rfl rfl ?_ | refine OW_mul rfl rfl ?_ | refine OW_min2 rfl rfl ?_ | refine OW_max2 rfl rfl ?_ | refine OW_neg rfl ?_ | refine CW_block ?_ | refine CW_condT rfl ?_ | refine CW_condF rfl ?_ | refine CW_exit ?_ | refine CW_ret ?_ | refine CW_skip ?_ | refine LW_seq ?_ | refine LW_regC ?_ | refine LW_condC ?_ | refine LW_regF ?_ | refine LW_condF ?_ | refine FW_seq ?_ | refine FW_region (by kernel_rfl) ?_ | refine FW_block ?_ | refine FW_condT rfl ?_ | refine FW_condF rfl ?_ | refine FW_exit ?_ | refine FW_ret ?_ | refine FW_skip ?_ | refine LW_ret ?_ | refine LW_skip ?_ | refine thenE_exit ?_ | refine thenE_ret ?_ | refine inBlockE_normal ?_ | refine inBlockE_same ?_ | refine inBlockE_ret ?_ | refine inBlockE_ne (by rfl) ?_ | refine OW_eqlB (by with_reducible exact und_bool) rfl rfl ?_ | refine OW_neqB (by with_reducible exact und_bool) rfl rfl ?_ | refine OW_idxS (by with_reducible exact und_bytes) one_u8 rfl rfl _ rfl (by omega) ?_ | refine OW_idxS (by with_reducible exact und_bytess) one_bytes rfl rfl _ rfl (by omega) ?_ | refine OW_load1 (by first | with_reducible exact one_u8 | with_reducible exact one_bytes) rfl _ (by assumption) ?_)
  exact hEnd.out) (k : B) : A := h ⟨k⟩
theorem putL_take_succ {x n k : Nat} (hk : k < n) : (putL x n).take (k + 1) = (putL x n).take k ++ [UInt8.ofNat (x / 256 ^ (n - 1 - k))] := by
  rw [take_succ_get _ _ (by rw [putL_length]; exact hk)]
  congr 2
  have := putL_get (x := x) hk
  rw [List.getElem?_eq_getElem (by rw [putL_length]; exact hk)] at this
  exact Option.some.inj this
set_option maxHeartbeats 8000000 in
theorem refPut_any (w : World) (x : Nat) (n : Int) (nN : Nat) (hnn : n = (nN : Int)) (h8 : nN ≤ 8) (hx : x < 18446744073709551616) :
    Calls Try.prog 73 #[.int .u64 x, .int .i64 n] w (RetBs 5 w (putL x nN)) := by
  subst hnn
  have hlen := putL_length x nN
  refine calls_of_CW Try.func73 rfl (by simp [Try.ntmps73]) ?_
  rw [Try.ntmps73]
  refine go_RefPut (k := ?_)
  refine CW_loop (fun e' w' => ∃ (k : Nat) (A2 : Option Addr) (c2 : Nat), k ≤ nN ∧ e' 0 = .int .u64 x ∧ e' 1 = .int .i64 nN ∧ e' 6 = .int .i64 k ∧ e' 5 = .slice A2 k c2 ∧
      w'.ownsRow w.heap.size 5 1 (.slice A2 k c2) k (((putL x nN).take k).map bv) ∧ Ext w w') (fun e' _ => nN - (intOf (e' 6)).toNat) ?_ ?_
  · exact ⟨0, none, 0, Nat.zero_le _, rfl, rfl, rfl, rfl, World.ownsRow_nil _ _ _ _, Ext.rfl' w⟩
  · rintro e' w' ⟨k, A2, c2, hk, e0, e1, e6, e5, ho, hw⟩
    rw [upd_self e0, upd_self e1, upd_self e6, upd_self e5]
    refine go_RefPut (k := ?_)
    refine CW_cond _ rfl (fun h => ?_) (fun h => ?_)
    · have hlt : k < nN := by simpa using h
      refine go_RefPut (k := ?_)
      refine CW_loop (fun e'' w'' => ∃ j : Nat, k ≤ j ∧ j ≤ nN - 1 ∧ e'' 0 = .int .u64 x ∧ e'' 1 = .int .i64 nN ∧ e'' 6 = .int .i64 k ∧ e'' 5 = .slice A2 k c2 ∧ e'' 7 = .int .u64 (x / 256 ^ (j - k) : Nat) ∧ e'' 8 = .int .i64 j ∧ w'' = w') (fun e'' _ => nN - (intOf (e'' 8)).toNat) ?_ ?_
      · exact ⟨k, Nat.le_refl _, by omega, rfl, rfl, rfl, rfl, by simp; rfl, rfl, rfl⟩
      · rintro e2 w2 ⟨j, hj1, hj2, f0, f1, f6, f5, f7, f8, rfl⟩
        rw [upd_self f0, upd_self f1, upd_self f6, upd_self f5, upd_self f7, upd_self f8]
        have hy : x / 256 ^ (j - k) < 18446744073709551616 := Nat.lt_of_le_of_lt (Nat.div_le_self _ _) hx
        have hs : x / 256 ^ (j - k) / 256 = x / 256 ^ (j + 1 - k) := by rw [show j + 1 - k = j - k + 1 by omega, Nat.pow_succ, Nat.div_div_eq_div_mul]
        refine go_RefPut (k := ?_)
        refine CW_cond _ rfl (fun h => ?_) (fun h => ?_)
        · have hjl : j < nN - 1 := by simp at h; omega
          refine go_RefPut (k := ?_)
          refine OW_quo rfl rfl (by decide) ?_
          rw [quo_u64 _ 256 256 rfl hy, hs]
          refine go_RefPut (k := ?_)
          refine ⟨⟨j + 1, by omega, by omega, rfl, rfl, rfl, rfl, rfl, rfl, rfl⟩, ?_⟩
          show nN - ((j : Int) + 1).toNat < nN - (j : Int).toNat
          omega
        · have hje : j = nN - 1 := by simp at h; omega
          subst hje
          refine go_RefPut (k := ?_)
          refine OW_rem rfl rfl (by decide) ?_
          rw [rem_u32 _ 256 256 rfl]
          refine go_RefPut (k := ?_)
          rw [wrap_u8_lt _ (Nat.mod_lt _ (by decide))]
          have hv : (Value.int .u8 ((x / 256 ^ (nN - 1 - k) % 256 : Nat) : Int)) = bv (UInt8.ofNat (x / 256 ^ (nN - 1 - k))) := by simp [bv]
          refine OW_lit [.int .u8 ((x / 256 ^ (nN - 1 - k) % 256 : Nat) : Int)] und_bytes info_u8 rfl rfl (by simp [Value.oneCell']) (by decide) ?_
          intro w3 g3 hb3 hg3 hx3
          refine go_RefPut (k := ?_)
          refine OW_append und_bytes info_u8 rfl rfl rfl (own_ext ho hx3) hb3.rd (by simp) (by simp [Value.oneCell']) (by unfold maxLen; omega) (by omega) (Nat.le_trans hw.size hx3.size) ?_
          intro w4 A4 c4 ho4 hb4
          refine go_RefPut (k := ?_)
          refine ⟨⟨k + 1, A4, c4, by omega, rfl, rfl, rfl, rfl, ?_, (hw.trans' hx3).trans hb4⟩, ?_⟩
          · rw [putL_take_succ hlt, List.map_append, List.map_cons, List.map_nil, ← hv]
            exact ho4
          · show nN - ((k : Int) + 1).toNat < nN - (k : Int).toNat
            omega
    · have hge : k = nN := by simp at h; omega
      subst hge
      rw [List.take_of_length_le (by omega)] at ho
      refine go_RefPut (k := ?_)
      refine bodyE_ret1 rfl (.slice A2 k c2) rfl ⟨A2, c2, by rw [hlen], ?_, hw⟩
      rw [hlen]
      exact ho
end Go.Proofs.Ytdpcahfgdpikfaa
