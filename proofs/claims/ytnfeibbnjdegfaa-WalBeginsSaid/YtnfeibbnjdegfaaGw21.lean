/- Several texts in one, as they stand in wip/src. -/
import Derived.Test.YtnfeibbnjdegfaaGw20
/- Walks: slices.Clip, Recover. -/
namespace Go.Proofs.Ytnfeibbnjdegfaa
open Go Go.RowKit
set_option linter.unusedVariables false
set_option maxRecDepth 4000
theorem go_Wal5 {A B : Prop} (h : Held B → A := by
  intro hEnd
  repeat (first | refine OW_nilCheck rfl ?_ | refine OW_fieldB fldo_V0 rfl ?_ | refine OW_eqlNil und_pV rfl ?_ | refine OW_eqlNil und_pD rfl ?_ | refine OW_moveV (.int _ _) rfl ?_ | refine OW_moveV (.slice _ _ _) rfl ?_ | refine OW_moveV (.bool _) rfl ?_ | refine OW_moveV (.pointer _) rfl ?_ | refine OW_moveV (.string _) rfl ?_ | refine OW_moveV (.agg _) rfl ?_ | refine OW_moveV (.tuple _) rfl ?_ | refine OW_nil ?_ | refine thenE_normal ?_ | refine CW_seq ?_ | refine CW_region (by kernel_rfl) ?_ | refine OW_assignV (.int _ _) rfl ?_ | refine OW_assignV (.slice _ _ _) rfl ?_ | refine OW_assignV (.bool _) rfl ?_ | refine OW_assignV (.pointer _) rfl ?_ | refine OW_assignV (.string _) rfl ?_ | refine OW_assignV (.agg _) rfl ?_ | refine OW_assignV (.tuple _) rfl ?_ | refine OW_addI rfl rfl (by omega) ?_ | refine OW_subI rfl rfl (by omega) ?_ | refine OW_mulI rfl rfl (by omega) ?_ | refine OW_lss rfl rfl ?_ | refine OW_extract rfl rfl ?_ | refine OW_gtr rfl rfl ?_ | refine OW_leq rfl rfl ?_ | refine OW_geq rfl rfl ?_ | refine OW_eql rfl rfl ?_ | refine OW_neq rfl rfl ?_ | refine OW_not rfl ?_ | refine OW_pickT rfl _ rfl ?_ | refine OW_pickF rfl (.bool _) rfl ?_ | refine OW_pickB rfl rfl rfl ?_ | refine OW_move ?_ | refine OW_assign ?_ | refine OW_pass rfl ?_ | refine OW_take rfl ?_ | refine OW_lenS (by first | with_reducible exact und_bytes | with_reducible exact und_bytess) rfl ?_ | refine OW_convInt (by first | with_reducible exact und_u8 | with_reducible exact und_u64 | with_reducible exact und_int | with_reducible exact und_u32) (by first | with_reducible exact und_u8 | with_reducible exact und_u64 | with_reducible exact und_int | with_reducible exact und_u32) rfl ?_ | refine OW_add rfl rfl ?_ | refine OW_sub rfl rfl ?_ | refine OW_mul rfl rfl ?_ | refine OW_min2 rfl rfl ?_ | refine OW_max2 rfl rfl ?_ | refine OW_neg rfl ?_ | refine CW_block ?_ | refine CW_condT rfl ?_ | refine CW_condF rfl ?_ | refine CW_exit ?_ | refine CW_ret ?_ | refine CW_skip ?_ | refine LW_seq ?_ | refine LW_regC ?_ | refine LW_condC ?_ | refine LW_regF ?_ | refine LW_condF ?_ | refine FW_seq ?_ | refine FW_region (by kernel_rfl) ?_ | refine FW_block ?_ | refine FW_condT rfl ?_ | refine FW_condF rfl ?_ | refine FW_exit ?_ | refine FW_ret ?_ | refine FW_skip ?_ | refine LW_ret ?_ | refine LW_skip ?_ | refine thenE_exit ?_ | refine thenE_ret ?_ | refine inBlockE_normal ?_ | refine inBlockE_same ?_ | refine inBlockE_ret ?_ | refine inBlockE_ne (by rfl) ?_ | refine OW_eqlB (by with_reducible exact und_bool) rfl rfl ?_ | refine OW_neqB (by with_reducible exact und_bool) rfl rfl ?_ | refine OW_idxS (by with_reducible exact und_bytes) one_u8 rfl rfl _ rfl (by omega) ?_ | refine OW_idxS (by with_reducible exact und_bytess) one_bytes rfl rfl _ rfl (by omega) ?_ | refine OW_load1 (by first | with_reducible exact one_u8 | with_reducible exact one_bytes) rfl _ (by assumption) ?_ | refine OW_load1 d_ptr rfl _ (by assumption) ?_ | refine OW_load1 v_ptr rfl _ (by assumption) ?_)
  exact hEnd.out) (k : B) : A := h ⟨k⟩
theorem oy_Wal5 {A B : Prop} (h : Held B → A := by
  intro hEnd
  repeat (first
    | refine OY_done ?_
    | (apply OY_p _ rfl
       · intro wd
         (first | refine OW_nilCheck rfl ?_ | refine OW_fieldB fldo_V0 rfl ?_ | refine OW_eqlNil und_pV rfl ?_ | refine OW_eqlNil und_pD rfl ?_ | refine OW_moveV (.int _ _) rfl ?_ | refine OW_moveV (.slice _ _ _) rfl ?_ | refine OW_moveV (.bool _) rfl ?_ | refine OW_moveV (.pointer _) rfl ?_ | refine OW_moveV (.string _) rfl ?_ | refine OW_moveV (.agg _) rfl ?_ | refine OW_moveV (.tuple _) rfl ?_ | refine OW_nil ?_ | refine thenE_normal ?_ | refine CW_seq ?_ | refine CW_region (by kernel_rfl) ?_ | refine OW_assignV (.int _ _) rfl ?_ | refine OW_assignV (.slice _ _ _) rfl ?_ | refine OW_assignV (.bool _) rfl ?_ | refine OW_assignV (.pointer _) rfl ?_ | refine OW_assignV (.string _) rfl ?_ | refine OW_assignV (.agg _) rfl ?_ | refine OW_assignV (.tuple _) rfl ?_ | refine OW_addI rfl rfl (by omega) ?_ | refine OW_subI rfl rfl (by omega) ?_ | refine OW_mulI rfl rfl (by omega) ?_ | refine OW_lss rfl rfl ?_ | refine OW_extract rfl rfl ?_ | refine OW_gtr rfl rfl ?_ | refine OW_leq rfl rfl ?_ | refine OW_geq rfl rfl ?_ | refine OW_eql rfl rfl ?_ | refine OW_neq rfl rfl ?_ | refine OW_not rfl ?_ | refine OW_pickT rfl _ rfl ?_ | refine OW_pickF rfl (.bool _) rfl ?_ | refine OW_pickB rfl rfl rfl ?_ | refine OW_move ?_ | refine OW_assign ?_ | refine OW_pass rfl ?_ | refine OW_take rfl ?_ | refine OW_lenS (by first | with_reducible exact und_bytes | with_reducible exact und_bytess) rfl ?_ | refine OW_convInt (by first | with_reducible exact und_u8 | with_reducible exact und_u64 | with_reducible exact und_int | with_reducible exact und_u32) (by first | with_reducible exact und_u8 | with_reducible exact und_u64 | with_reducible exact und_int | with_reducible exact und_u32) rfl ?_ | refine OW_add rfl rfl ?_ | refine OW_sub rfl rfl ?_ | refine OW_mul rfl rfl ?_ | refine OW_min2 rfl rfl ?_ | refine OW_max2 rfl rfl ?_ | refine OW_neg rfl ?_ | refine CW_block ?_ | refine CW_condT rfl ?_ | refine CW_condF rfl ?_ | refine CW_exit ?_ | refine CW_ret ?_ | refine CW_skip ?_ | refine LW_seq ?_ | refine LW_regC ?_ | refine LW_condC ?_ | refine LW_regF ?_ | refine LW_condF ?_ | refine FW_seq ?_ | refine FW_region (by kernel_rfl) ?_ | refine FW_block ?_ | refine FW_condT rfl ?_ | refine FW_condF rfl ?_ | refine FW_exit ?_ | refine FW_ret ?_ | refine FW_skip ?_ | refine LW_ret ?_ | refine LW_skip ?_ | refine thenE_exit ?_ | refine thenE_ret ?_ | refine inBlockE_normal ?_ | refine inBlockE_same ?_ | refine inBlockE_ret ?_ | refine inBlockE_ne (by rfl) ?_ | refine OW_eqlB (by with_reducible exact und_bool) rfl rfl ?_ | refine OW_neqB (by with_reducible exact und_bool) rfl rfl ?_ | refine OW_idxS (by with_reducible exact und_bytes) one_u8 rfl rfl _ rfl (by omega) ?_ | refine OW_idxS (by with_reducible exact und_bytess) one_bytes rfl rfl _ rfl (by omega) ?_ | refine OW_load1 (by first | with_reducible exact one_u8 | with_reducible exact one_bytes) rfl _ (by assumption) ?_ | refine OW_load1 d_ptr rfl _ (by assumption) ?_ | refine OW_load1 v_ptr rfl _ (by assumption) ?_)
         refine OW_nil ?_
         exact stay_mk _ _ _ _)
    | (apply OY_q _ rfl
       · intro wd hwd
         (first | refine OW_nilCheck rfl ?_ | refine OW_fieldB fldo_V0 rfl ?_ | refine OW_eqlNil und_pV rfl ?_ | refine OW_eqlNil und_pD rfl ?_ | refine OW_moveV (.int _ _) rfl ?_ | refine OW_moveV (.slice _ _ _) rfl ?_ | refine OW_moveV (.bool _) rfl ?_ | refine OW_moveV (.pointer _) rfl ?_ | refine OW_moveV (.string _) rfl ?_ | refine OW_moveV (.agg _) rfl ?_ | refine OW_moveV (.tuple _) rfl ?_ | refine OW_nil ?_ | refine thenE_normal ?_ | refine CW_seq ?_ | refine CW_region (by kernel_rfl) ?_ | refine OW_assignV (.int _ _) rfl ?_ | refine OW_assignV (.slice _ _ _) rfl ?_ | refine OW_assignV (.bool _) rfl ?_ | refine OW_assignV (.pointer _) rfl ?_ | refine OW_assignV (.string _) rfl ?_ | refine OW_assignV (.agg _) rfl ?_ | refine OW_assignV (.tuple _) rfl ?_ | refine OW_addI rfl rfl (by omega) ?_ | refine OW_subI rfl rfl (by omega) ?_ | refine OW_mulI rfl rfl (by omega) ?_ | refine OW_lss rfl rfl ?_ | refine OW_extract rfl rfl ?_ | refine OW_gtr rfl rfl ?_ | refine OW_leq rfl rfl ?_ | refine OW_geq rfl rfl ?_ | refine OW_eql rfl rfl ?_ | refine OW_neq rfl rfl ?_ | refine OW_not rfl ?_ | refine OW_pickT rfl _ rfl ?_ | refine OW_pickF rfl (.bool _) rfl ?_ | refine OW_pickB rfl rfl rfl ?_ | refine OW_move ?_ | refine OW_assign ?_ | refine OW_pass rfl ?_ | refine OW_take rfl ?_ | refine OW_lenS (by first | with_reducible exact und_bytes | with_reducible exact und_bytess) rfl ?_ | refine OW_convInt (by first | with_reducible exact und_u8 | with_reducible exact und_u64 | with_reducible exact und_int | with_reducible exact und_u32) (by first | with_reducible exact und_u8 | with_reducible exact und_u64 | with_reducible exact und_int | with_reducible exact und_u32) rfl ?_ | refine OW_add rfl rfl ?_ | refine OW_sub rfl rfl ?_ | refine OW_mul rfl rfl ?_ | refine OW_min2 rfl rfl ?_ | refine OW_max2 rfl rfl ?_ | refine OW_neg rfl ?_ | refine CW_block ?_ | refine CW_condT rfl ?_ | refine CW_condF rfl ?_ | refine CW_exit ?_ | refine CW_ret ?_ | refine CW_skip ?_ | refine LW_seq ?_ | refine LW_regC ?_ | refine LW_condC ?_ | refine LW_regF ?_ | refine LW_condF ?_ | refine FW_seq ?_ | refine FW_region (by kernel_rfl) ?_ | refine FW_block ?_ | refine FW_condT rfl ?_ | refine FW_condF rfl ?_ | refine FW_exit ?_ | refine FW_ret ?_ | refine FW_skip ?_ | refine LW_ret ?_ | refine LW_skip ?_ | refine thenE_exit ?_ | refine thenE_ret ?_ | refine inBlockE_normal ?_ | refine inBlockE_same ?_ | refine inBlockE_ret ?_ | refine inBlockE_ne (by rfl) ?_ | refine OW_eqlB (by with_reducible exact und_bool) rfl rfl ?_ | refine OW_neqB (by with_reducible exact und_bool) rfl rfl ?_ | refine OW_idxS (by with_reducible exact und_bytes) one_u8 rfl rfl _ rfl (by omega) ?_ | refine OW_idxS (by with_reducible exact und_bytess) one_bytes rfl rfl _ rfl (by omega) ?_ | refine OW_load1 (by first | with_reducible exact one_u8 | with_reducible exact one_bytes) rfl _ (by assumption) ?_ | refine OW_load1 d_ptr rfl _ (by assumption) ?_ | refine OW_load1 v_ptr rfl _ (by assumption) ?_ | (refine OW_isLoad ?_; refine OW_loadBk (by first | with_reducible exact one_u8 | with_reducible exact one_bytes | with_reducible exact one_bool | with_reducible exact one_int | with_reducible exact one_errno | with_reducible exact one_u32 | with_reducible exact one_u64 | with_reducible exact one_string | with_reducible exact d_ptr | with_reducible exact v_ptr | with_reducible exact s_int) rfl (by apply_assumption; assumption) _ (by first | assumption | rfl) ?_) | refine OW_load1 (by first | with_reducible exact one_u8 | with_reducible exact one_bytes | with_reducible exact one_bool | with_reducible exact one_int | with_reducible exact one_errno | with_reducible exact one_u32 | with_reducible exact one_u64 | with_reducible exact one_string | with_reducible exact d_ptr | with_reducible exact v_ptr | with_reducible exact s_int) rfl _ (by apply_assumption; assumption) ?_)
         refine OW_nil ?_
         exact stay_mk _ _ _ _)
    | refine OY_ppass rfl rfl ?_
    | refine OY_qpass rfl rfl ?_
    | (apply OY_ptake _ rfl rfl
       · intro wd
         (first | refine OW_nilCheck rfl ?_ | refine OW_fieldB fldo_V0 rfl ?_ | refine OW_eqlNil und_pV rfl ?_ | refine OW_eqlNil und_pD rfl ?_ | refine OW_moveV (.int _ _) rfl ?_ | refine OW_moveV (.slice _ _ _) rfl ?_ | refine OW_moveV (.bool _) rfl ?_ | refine OW_moveV (.pointer _) rfl ?_ | refine OW_moveV (.string _) rfl ?_ | refine OW_moveV (.agg _) rfl ?_ | refine OW_moveV (.tuple _) rfl ?_ | refine OW_nil ?_ | refine thenE_normal ?_ | refine CW_seq ?_ | refine CW_region (by kernel_rfl) ?_ | refine OW_assignV (.int _ _) rfl ?_ | refine OW_assignV (.slice _ _ _) rfl ?_ | refine OW_assignV (.bool _) rfl ?_ | refine OW_assignV (.pointer _) rfl ?_ | refine OW_assignV (.string _) rfl ?_ | refine OW_assignV (.agg _) rfl ?_ | refine OW_assignV (.tuple _) rfl ?_ | refine OW_addI rfl rfl (by omega) ?_ | refine OW_subI rfl rfl (by omega) ?_ | refine OW_mulI rfl rfl (by omega) ?_ | refine OW_lss rfl rfl ?_ | refine OW_extract rfl rfl ?_ | refine OW_gtr rfl rfl ?_ | refine OW_leq rfl rfl ?_ | refine OW_geq rfl rfl ?_ | refine OW_eql rfl rfl ?_ | refine OW_neq rfl rfl ?_ | refine OW_not rfl ?_ | refine OW_pickT rfl _ rfl ?_ | refine OW_pickF rfl (.bool _) rfl ?_ | refine OW_pickB rfl rfl rfl ?_ | refine OW_move ?_ | refine OW_assign ?_ | refine OW_pass rfl ?_ | refine OW_take rfl ?_ | refine OW_lenS (by first | with_reducible exact und_bytes | with_reducible exact und_bytess) rfl ?_ | refine OW_convInt (by first | with_reducible exact und_u8 | with_reducible exact und_u64 | with_reducible exact und_int | with_reducible exact und_u32) (by first | with_reducible exact und_u8 | with_reducible exact und_u64 | with_reducible exact und_int | with_reducible exact und_u32) rfl ?_ | refine OW_add rfl rfl ?_ | refine OW_sub rfl rfl ?_ | refine OW_mul rfl rfl ?_ | refine OW_min2 rfl rfl ?_ | refine OW_max2 rfl rfl ?_ | refine OW_neg rfl ?_ | refine CW_block ?_ | refine CW_condT rfl ?_ | refine CW_condF rfl ?_ | refine CW_exit ?_ | refine CW_ret ?_ | refine CW_skip ?_ | refine LW_seq ?_ | refine LW_regC ?_ | refine LW_condC ?_ | refine LW_regF ?_ | refine LW_condF ?_ | refine FW_seq ?_ | refine FW_region (by kernel_rfl) ?_ | refine FW_block ?_ | refine FW_condT rfl ?_ | refine FW_condF rfl ?_ | refine FW_exit ?_ | refine FW_ret ?_ | refine FW_skip ?_ | refine LW_ret ?_ | refine LW_skip ?_ | refine thenE_exit ?_ | refine thenE_ret ?_ | refine inBlockE_normal ?_ | refine inBlockE_same ?_ | refine inBlockE_ret ?_ | refine inBlockE_ne (by rfl) ?_ | refine OW_eqlB (by with_reducible exact und_bool) rfl rfl ?_ | refine OW_neqB (by with_reducible exact und_bool) rfl rfl ?_ | refine OW_idxS (by with_reducible exact und_bytes) one_u8 rfl rfl _ rfl (by omega) ?_ | refine OW_idxS (by with_reducible exact und_bytess) one_bytes rfl rfl _ rfl (by omega) ?_ | refine OW_load1 (by first | with_reducible exact one_u8 | with_reducible exact one_bytes) rfl _ (by assumption) ?_ | refine OW_load1 d_ptr rfl _ (by assumption) ?_ | refine OW_load1 v_ptr rfl _ (by assumption) ?_)
         refine OW_nil ?_
         exact stay_mk _ _ _ _)
    | (apply OY_qtake _ rfl rfl
       · intro wd hwd
         (first | refine OW_nilCheck rfl ?_ | refine OW_fieldB fldo_V0 rfl ?_ | refine OW_eqlNil und_pV rfl ?_ | refine OW_eqlNil und_pD rfl ?_ | refine OW_moveV (.int _ _) rfl ?_ | refine OW_moveV (.slice _ _ _) rfl ?_ | refine OW_moveV (.bool _) rfl ?_ | refine OW_moveV (.pointer _) rfl ?_ | refine OW_moveV (.string _) rfl ?_ | refine OW_moveV (.agg _) rfl ?_ | refine OW_moveV (.tuple _) rfl ?_ | refine OW_nil ?_ | refine thenE_normal ?_ | refine CW_seq ?_ | refine CW_region (by kernel_rfl) ?_ | refine OW_assignV (.int _ _) rfl ?_ | refine OW_assignV (.slice _ _ _) rfl ?_ | refine OW_assignV (.bool _) rfl ?_ | refine OW_assignV (.pointer _) rfl ?_ | refine OW_assignV (.string _) rfl ?_ | refine OW_assignV (.agg _) rfl ?_ | refine OW_assignV (.tuple _) rfl ?_ | refine OW_addI rfl rfl (by omega) ?_ | refine OW_subI rfl rfl (by omega) ?_ | refine OW_mulI rfl rfl (by omega) ?_ | refine OW_lss rfl rfl ?_ | refine OW_extract rfl rfl ?_ | refine OW_gtr rfl rfl ?_ | refine OW_leq rfl rfl ?_ | refine OW_geq rfl rfl ?_ | refine OW_eql rfl rfl ?_ | refine OW_neq rfl rfl ?_ | refine OW_not rfl ?_ | refine OW_pickT rfl _ rfl ?_ | refine OW_pickF rfl (.bool _) rfl ?_ | refine OW_pickB rfl rfl rfl ?_ | refine OW_move ?_ | refine OW_assign ?_ | refine OW_pass rfl ?_ | refine OW_take rfl ?_ | refine OW_lenS (by first | with_reducible exact und_bytes | with_reducible exact und_bytess) rfl ?_ | refine OW_convInt (by first | with_reducible exact und_u8 | with_reducible exact und_u64 | with_reducible exact und_int | with_reducible exact und_u32) (by first | with_reducible exact und_u8 | with_reducible exact und_u64 | with_reducible exact und_int | with_reducible exact und_u32) rfl ?_ | refine OW_add rfl rfl ?_ | refine OW_sub rfl rfl ?_ | refine OW_mul rfl rfl ?_ | refine OW_min2 rfl rfl ?_ | refine OW_max2 rfl rfl ?_ | refine OW_neg rfl ?_ | refine CW_block ?_ | refine CW_condT rfl ?_ | refine CW_condF rfl ?_ | refine CW_exit ?_ | refine CW_ret ?_ | refine CW_skip ?_ | refine LW_seq ?_ | refine LW_regC ?_ | refine LW_condC ?_ | refine LW_regF ?_ | refine LW_condF ?_ | refine FW_seq ?_ | refine FW_region (by kernel_rfl) ?_ | refine FW_block ?_ | refine FW_condT rfl ?_ | refine FW_condF rfl ?_ | refine FW_exit ?_ | refine FW_ret ?_ | refine FW_skip ?_ | refine LW_ret ?_ | refine LW_skip ?_ | refine thenE_exit ?_ | refine thenE_ret ?_ | refine inBlockE_normal ?_ | refine inBlockE_same ?_ | refine inBlockE_ret ?_ | refine inBlockE_ne (by rfl) ?_ | refine OW_eqlB (by with_reducible exact und_bool) rfl rfl ?_ | refine OW_neqB (by with_reducible exact und_bool) rfl rfl ?_ | refine OW_idxS (by with_reducible exact und_bytes) one_u8 rfl rfl _ rfl (by omega) ?_ | refine OW_idxS (by with_reducible exact und_bytess) one_bytes rfl rfl _ rfl (by omega) ?_ | refine OW_load1 (by first | with_reducible exact one_u8 | with_reducible exact one_bytes) rfl _ (by assumption) ?_ | refine OW_load1 d_ptr rfl _ (by assumption) ?_ | refine OW_load1 v_ptr rfl _ (by assumption) ?_ | (refine OW_isLoad ?_; refine OW_loadBk (by first | with_reducible exact one_u8 | with_reducible exact one_bytes | with_reducible exact one_bool | with_reducible exact one_int | with_reducible exact one_errno | with_reducible exact one_u32 | with_reducible exact one_u64 | with_reducible exact one_string | with_reducible exact d_ptr | with_reducible exact v_ptr | with_reducible exact s_int) rfl (by apply_assumption; assumption) _ (by first | assumption | rfl) ?_) | refine OW_load1 (by first | with_reducible exact one_u8 | with_reducible exact one_bytes | with_reducible exact one_bool | with_reducible exact one_int | with_reducible exact one_errno | with_reducible exact one_u32 | with_reducible exact one_u64 | with_reducible exact one_string | with_reducible exact d_ptr | with_reducible exact v_ptr | with_reducible exact s_int) rfl _ (by apply_assumption; assumption) ?_)
         refine OW_nil ?_
         exact stay_mk _ _ _ _)
    | refine OY_a (actY_of rfl ?_)
    | refine OY_d (actY_of rfl ?_)
    | refine OY_a (actY_pass rfl rfl ?_)
    | refine OY_d (actY_pass rfl rfl ?_)
    | refine OY_a (actY_take rfl rfl ?_)
    | refine OY_d (actY_take rfl rfl ?_))
  exact hEnd.out) (k : B) : A := h ⟨k⟩
set_option maxHeartbeats 8000000 in
theorem clip_any (w : World) (A : Option Addr) (n c : Nat) (hA : A = none ∨ ∃ g, A = some ⟨g, 0, none⟩) (hc : n ≤ c) :
    Calls Try.prog 63 #[.slice A n c] w (RetV w (.slice A n n)) := by
  refine calls_of_CW Try.func63 rfl (by simp [Try.ntmps63]) ?_
  rw [Try.ntmps63]
  refine go_Wal5 (k := ?_)
  refine OW_slice (lv := 0) (hv := n) (mv := n) und_bytess one_bytes rfl rfl ⟨_, rfl⟩ ⟨_, rfl⟩ (fun _ => rfl) (by omega) ?_
  rw [show (0 : Int).toNat = 0 from rfl, show ((n : Nat) : Int).toNat = n from rfl, cutA_zero hA, Nat.sub_zero]
  refine go_Wal5 (k := ?_)
  exact bodyE_ret1 rfl (.slice A n n) rfl ⟨rfl, Ext.rfl' w⟩
theorem bodyE_retc1tt {P : Program} {fn : Func} {R : Ending → World → Prop} {e : Nat → Value} {w : World} {t u x : Tmp} {ty : TypeId} {a : Addr} (hr : fn.results = #[.cell t ty, .tmp u, .tmp x]) (ht : OneT P ty) (hv : e t = .pointer (some a)) {v v' v'' : Value} (hc : w.cell? a = some v) (hu : e u = v') (hx : e x = v'')
    (hR : R (.returned (.tuple #[v, v', v''])) w) : bodyE P fn R .ret e w := by
  unfold bodyE
  refine ⟨.tuple #[v, v', v''], fun tmps htm => ?_, hR⟩
  have h1 := run_loadOne (w := w) ht hc
  simp [results, hr, htm, hv, hu, hx, asAddr, h1]
set_option maxHeartbeats 8000000 in
theorem readyUp_any (w : World) (v g : Nat) (S : Nat → Prop) (d : DS) (h : DR w g S d) (hv : VB w v g) (hu : d.up = true) :
    Calls Try.prog 45 #[.pointer (some ⟨v, 0, none⟩)] w (RetV w (.int .i64 0)) := by
  refine calls_of_CW Try.func45 rfl (by simp [Try.ntmps45]) ?_
  rw [Try.ntmps45]
  refine go_Wal5 (k := ?_)
  rw [show (some (⟨v, 0, none⟩ : Addr)).isNone = false from rfl]
  refine go_Wal5 (k := ?_)
  refine OW_isLoad ?_
  refine OW_loadBk d_ptr rfl hv (.pointer (some ⟨g, 0, none⟩)) rfl ?_
  refine go_Wal5 (k := ?_)
  rw [show (some (⟨g, 0, none⟩ : Addr)).isNone = false from rfl]
  refine go_Wal5 (k := ?_)
  refine OW_isLoad ?_
  refine OW_loadBk d_ptr rfl hv (.pointer (some ⟨g, 0, none⟩)) rfl ?_
  refine go_Wal5 (k := ?_)
  refine OW_callV Try.func31 (by kernel_rfl) rfl (dUp_any w g S d h) rfl ?_
  intro w1 hx1
  rw [hu]
  refine go_Wal5 (k := ?_)
  exact bodyE_ret1 rfl (.int .i64 0) rfl ⟨rfl, hx1⟩
/-- The disk behind a Recover. -/
def rcvD (d : DS) (ps : List (List UInt8)) : DS := if (framesB ps).length < d.all.length then (dCut d (framesB ps).length).2 else d
/-- What Recover tells of a disk that is up. -/
def RcvP (w : World) (g : Nat) (S : Nat → Prop) (d : DS) : Ending → World → Prop := fun en w' => ∃ A vs S', en = .returned (.tuple #[.slice A vs.length vs.length, .int .i64 ((d.all.length : Int) - (framesB (vs.map pay)).length), .int .i64 0]) ∧ IsAll d.all (vs.map pay) ∧
  DR w' g S' (rcvD d (vs.map pay)) ∧ (∀ k, S' k → S k ∨ w.heap.size ≤ k) ∧ Keeps w w' S ∧ ∀ u, Keeps w' u (fun k => S' k ∨ k < w.heap.size) → ArgL u A vs
set_option maxHeartbeats 8000000 in
theorem vRecover_any (w : World) (v g : Nat) (S : Nat → Prop) (d : DS) (h : DR w g S d) (hv : VB w v g) (hvS : ¬ S v) (hu : d.up = true) (hl : d.all.length ≤ 100000) (hn : d.ws.length ≤ 1000000) :
    Calls Try.prog 34 #[.pointer (some ⟨v, 0, none⟩)] w (RcvP w g S d) := by
  have hbd := h.bd
  have hnD := hn
  refine calls_of_LW Try.func34 rfl (by simp [Try.ntmps34]) ?_
  refine go_Wal5 (k := ?_)
  refine OW_alloc1 (.slice none 0 0) (fun w => by kernel_rfl) ?_
  intro w1 g2 hb2 hg2 hl2 hx1
  refine go_Wal5 (k := ?_)
  refine OW_callV Try.func45 (by kernel_rfl) rfl (readyUp_any w1 v g S d (h.ext hx1) (hv.ext hx1) hu) rfl ?_
  intro w2 hx2
  replace hb2 := hb2.ext hx2
  have hx02 := hx1.trans' hx2
  refine go_Wal5 (k := ?_)
  refine OW_alloc1 (.int .i64 0) (fun w => by kernel_rfl) ?_
  intro w3 g3 hb3 hg3 hl3 hx3
  refine go_Wal5 (k := ?_)
  refine OW_storeB s_int rfl (.int .i64 0) rfl rfl hb3 Nat.one_pos ?_
  intro w3' hb3' hg3'
  have hb3' : Blk w3' g3 3 #[.int .i64 0] := hb3'
  have hk3' : Keeps w3 w3' (· = g3) := Keeps.of_only hg3' rfl
  have z1 := hx1.size
  have z2 := hx2.size
  have z3 := hx3.size
  have z3' := hk3'.size
  have hx03' : Ext w w3' := hk3'.ext (hx02.trans' hx3) (fun k hk => by have hk : k = g3 := hk; omega)
  replace hb2 := (hb2.ext hx3).keeps hk3' (by omega)
  refine go_Wal5 (k := ?_)
  refine OW_callC Try.func47 (by kernel_rfl) rfl (records_any w3' (.pointer (some ⟨v, 0, none⟩)) rfl) rfl ?_
  rintro en w4 ⟨gB, rfl, hbB, hgB, hx4⟩
  refine ⟨_, rfl, ?_⟩
  have hx04 := hx03'.trans' hx4
  replace hb2 := hb2.ext hx4
  have hb34 := hb3'.ext hx4
  have z4 := hx4.size
  have hlB := hbB.lt
  clear hb3 hb3'
  refine go_Wal5 (k := ?_)
  refine LW_forget [0, 2, 6, 15] ?_
  intro e5 h5
  have q0 : e5 0 = .pointer (some ⟨v, 0, none⟩) := h5 0 (by decide)
  have q2 : e5 2 = .pointer (some ⟨g2, 0, none⟩) := h5 2 (by decide)
  have q6 : e5 6 = .pointer (some ⟨g3, 0, none⟩) := h5 6 (by decide)
  have q15 : e5 15 = .func (.func 71) #[] #[.pointer (some ⟨gB, 0, none⟩)] := h5 15 (by decide)
  clear h5
  rw [upd_self q0, upd_self q2, upd_self q6, upd_self q15]
  have hit := records_iter d w.heap.size gB v g S hl hn
  generalize hb : d.all = b at *
  refine LW_range3 (ps := [16, 17]) hit Try.func71 (by kernel_rfl) rfl rfl (fun x => rfl) (by decide) (fun k => k = g2 ∨ k = g3) (fun k hk => ?_) (fun k hk => by omega) (fun W hW => ⟨by have := hW.size; omega, hbB.ext hW, (hv.ext hx04).ext hW, (h.ext hx04).ext hW⟩)
    (fun S xs W => ∃ A2 c2 S2, Gath w.heap.size w g2 S2 (xs.map Prod.snd) W A2 c2 ∧ Blk W g3 3 #[.int .i64 ((framesB ((xs.map Prod.snd).map pay)).length : Int)] ∧ (∀ k, S k ↔ S2 k ∨ k = g3) ∧ ¬ S2 g3 ∧ g3 < W.heap.size) (fun _ _ _ _ => False) (fun S s W ⟨A2, c2, S2, h, _, hS, _, h3⟩ k hk => by rcases (hS k).1 hk with hk | hk; exact (h.bd k hk).2; rw [hk]; exact h3) ?_ (fun _ _ _ _ _ h _ _ => h) ?_
    (fun x => upd (upd (upd (upd (upd (upd (upd (upd e5 15 (.func (.func 71) #[] #[.pointer (some ⟨gB, 0, none⟩)])) 6 (.pointer (some ⟨g3, 0, none⟩))) 2 (.pointer (some ⟨g2, 0, none⟩))) 0 (.pointer (some ⟨v, 0, none⟩))) 16 (.int .i64 x.1)) 17 (sv x.2)) 7 (.int .i64 x.1)) 8 (sv x.2)) ?_ ?_ ?_ (fun c S pre W _ h _ _ => h.elim)
  · have hk : k = gB := hk
    subst hk; exact ⟨hlB, by omega⟩
  · rintro S xs W W' ⟨A2, c2, S2, h, h3, hS, hn3, hl3⟩ hn hk
    have hng := hn g3 ((hS g3).2 (.inr rfl))
    refine ⟨A2, c2, S2, h.keeps hk (fun k hk2 hh => ?_) (fun k hk2 => ?_), h3.keeps hk (by omega), hS, hn3, Nat.lt_of_lt_of_le hl3 hk.size⟩
    · have := hn k ((hS k).2 (.inl hk2)); omega
    · omega
  · exact ⟨none, 0, (· = g2), ⟨hb2, RowsB.nil _ _, rfl, fun ad h => (by cases h), fun v h => (by simp at h), fun k hk => (by have hk : k = g2 := hk; omega), hx04⟩, hb34, fun k => Iff.rfl, by omega, by omega⟩
  · intro x l2 W
    unfold binds binds binds
    refine go_Wal5 (k := ?_)
    exact ⟨rfl, rfl, rfl⟩
  · rintro l2 S pre ⟨at_, Ax, cx, lx⟩ W hW ⟨A2, c2, S2, h, h3, hS, hn3, hl3⟩ hn ⟨k1, k2, k3, k4⟩ hG
    have hsx : sv (Ax, cx, lx) = .slice Ax lx.length cx := rfl
    rw [hsx]
    have hbd2 := h.bd g2 h.in2
    have hng := hn g3 ((hS g3).2 (.inr rfl))
    have hcnt : 12 * (pre.map Prod.snd).length ≤ b.length := by
      obtain ⟨p1, p2, p3⟩ := nextL_some k2
      have := frames12 ((pre.map Prod.snd).map pay)
      rw [List.length_map] at this
      rw [List.length_drop] at p2
      omega
    have hat : (at_ : Int) = ((framesB (((pre ++ [(at_, (Ax, cx, lx))]).map Prod.snd).map pay)).length : Int) := by rw [← k3]
    have hg3 : ∀ k, bvB (Ax, cx, lx) k → k ≠ g3 := fun k hk hh => k4 k hk (by rw [hh]; exact (hS g3).2 (.inr rfl))
    have hw2 : ∀ k, bvB (Ax, cx, lx) k → ¬ S2 k := fun k hk hh => k4 k hk ((hS k).2 (.inl hh))
    refine go_Wal5 (k := ?_)
    refine OW_storeB s_int rfl (.int .i64 at_) rfl rfl h3 Nat.one_pos ?_
    intro w5 hb5 hg5
    have hb5 : Blk w5 g3 3 #[.int .i64 at_] := hb5
    have hk5 : Keeps W w5 (· = g3) := Keeps.of_only hg5 rfl
    have s5 := hk5.size
    have h' := h.keeps hk5 (fun k hk2 hh => hn3 (by have hh : k = g3 := hh; rw [← hh]; exact hk2)) (fun k hk2 => by have hk2 : k = g3 := hk2; omega)
    have k1' : bvOwn w5 w.heap.size (Ax, cx, lx) := bvOwn.keeps k1 hk5 (fun k hk2 hh => hg3 k hk2 hh)
    refine go_Wal5 (k := ?_)
    refine OW_isLoad ?_
    refine OW_loadBk one_bytess rfl h'.cell (.slice A2 (pre.map Prod.snd).length c2) rfl ?_
    refine go_Wal5 (k := ?_)
    refine OW_lit [sv (Ax, cx, lx)] und_bytess info_bytes rfl rfl (by simp [sv, Value.oneCell']) (by decide) ?_
    intro w6 g6 hb6 hg6 hx6
    have hR6 := (h'.rows.ext hx6).row
    refine go_Wal5 (k := ?_)
    refine OW_appendK und_bytess info_bytes rfl rfl rfl hR6 (by simpa using hb6.rd) rfl (by simp [sv, Value.oneCell']) (by unfold maxLen; omega) (by omega) (by have := h'.ext.size; have := hx6.size; omega) ?_
    intro w7 A7 c7 ho7 hg7 hw7
    have hc7 : Blk w7 g2 22 #[.slice A2 (pre.map Prod.snd).length c2] := (h'.cell.ext hx6).keeps (S := fun k => ∃ ad, A2 = some ad ∧ ad.block = k) (Keeps.of_grown hg7 (fun g hg => by
      cases A2 with
      | none => cases hg
      | some ad => cases hg; exact ⟨ad, rfl, rfl⟩)) (fun ⟨ad, ha, hb⟩ => own_ne_blk hR6 (h'.cell.ext hx6) (by decide) ad ha hb)
    refine go_Wal5 (k := ?_)
    refine OW_storeB one_bytess rfl (.slice A7 ((pre.map Prod.snd).length + 1) c7) rfl rfl hc7 Nat.one_pos ?_
    intro w8 hb8 hg8
    obtain ⟨hG8, hK8⟩ := h'.add (v := (Ax, cx, lx)) rfl k1' hw2 hx6 ho7 hg7 hw7 hb8 hg8
    have s8 := hK8.size
    refine go_Wal5 (k := ?_)
    refine ⟨((hk5.mono fun k _ hk => (hS k).2 (.inr hk)).trans' (hK8.mono fun k _ hk => (hS k).2 (.inl hk))).mono fun k _ hk => .inl hk, fun k => (S2 k ∨ bvB (Ax, cx, lx) k ∨ (w5.heap.size ≤ k ∧ k < w8.heap.size)) ∨ k = g3, fun k hk => ?_, A7, c7, _, ?_, ?_, fun k => Iff.rfl, ?_, by omega⟩
    · rcases hk with (hk | hk | hk) | hk
      · exact .inl ((hS k).2 (.inl hk))
      · exact .inr (.inr hk)
      · exact .inr (.inl (by omega))
      · exact .inl ((hS k).2 (.inr hk))
    · rw [List.map_append]
      exact hG8
    · rw [← hat]
      exact hb5.keeps hK8 hn3
    · rintro (hk | hk | hk)
      · exact hn3 hk
      · exact hg3 _ hk rfl
      · omega
  · rintro S3 xs W hS' ⟨A2, c2, S2, hG, h3, hS, hn3, hl3⟩ hn hD
    have hx0 := hG.ext
    have hvW := hv.ext hx0
    have hdW := h.ext hx0
    have hcell := hG.cell
    have z0 := hx0.size
    have hbd2 := hG.bd g2 hG.in2
    have hvlt := hv.lt
    obtain ⟨N, hN⟩ : ∃ N, (framesB ((xs.map Prod.snd).map pay)).length = N := ⟨_, rfl⟩
    rw [hN] at h3
    have hNb : N ≤ b.length := by rw [← hN]; exact hS'.1
    refine go_Wal5 (k := ?_)
    obtain ⟨C, hC⟩ : ∃ C : World → Prop, C = fun v => Ext W v := ⟨_, rfl⟩
    have y_hvW := blkE hC hvW
    have y_h3 := blkE hC h3
    refine FW_tree2 [3, 6] (.p 0 (.p 1 (.p 2 (.q 3 (.q 6 (.a 4 (.p 5 (.p 7 (.p 8 .done))))))))) (C) (by kernel_rfl) (by kernel_rfl) (by kernel_rfl) ?_ ?_
    · exact inE hC
    intro w6 hx6 h_C
    refine oy_Wal5 (k := ?_)
    have hbytes := dBytes_any w6 g S d (hdW.ext hx6) (by rw [hb]; omega) hnD
    rw [hb] at hbytes
    refine OW_callC Try.func28 (by kernel_rfl) rfl hbytes rfl ?_
    rintro en w7 ⟨A7, c7, rfl, hc7, hf7, hx7⟩
    refine ⟨_, rfl, ?_⟩
    first | refine OW_nil (goY_mkE hC (hx6.trans' hx7) ?_) | refine OW_nil (goY_dropE hC (hx6.trans' hx7) ?_)
    refine oy_Wal5 (k := ?_)
    have hxW7 := hx6.trans' hx7
    have hvW7 := hvW.ext hxW7
    have h37 := h3.ext hxW7
    have hdW7 := hdW.ext hxW7
    clear y_hvW y_h3 h_C hC hf7 hc7
    refine go_Wal5 (k := ?_)
    refine FW_meet (fun e' w' => e' 2 = .pointer (some ⟨g2, 0, none⟩) ∧ e' 3 = .int .i64 ((b.length : Int) - N) ∧ ∃ S', DR w' g S' (rcvD d ((xs.map Prod.snd).map pay)) ∧ (∀ k, S' k → S k ∨ W.heap.size ≤ k) ∧ Keeps W w' S) ?_ ?_
    · refine FW_cond _ rfl (fun hh => ?_) (fun hh => ?_)
      · have hpos := of_decide_eq_true hh
        clear hh
        refine go_Wal5 (k := ?_)
        obtain ⟨C, hC⟩ : ∃ C : World → Prop, C = fun v => Ext w7 v := ⟨_, rfl⟩
        have y_hvW7 := blkE hC hvW7
        have y_h37 := blkE hC h37
        refine FW_tree2 [3, 4] (.p 0 (.p 1 (.p 2 (.q 3 (.q 4 (.d 5 .done)))))) (C) (by kernel_rfl) (by kernel_rfl) (by kernel_rfl) ?_ ?_
        · exact inE hC
        intro w8 hx8 h_C
        refine oy_Wal5 (k := ?_)
        have hcut := dCut_any w8 g S d (hdW7.ext hx8) (by rw [hb]; omega) hnD N
        refine OW_callC Try.func27 (by kernel_rfl) rfl hcut rfl ?_
        rintro en w9 hm
        obtain ⟨hm1, hm2, hm3⟩ := hm
        refine ⟨_, hm1, ?_⟩
        refine OW_nil (goY_done ?_)
        refine go_Wal5 (k := ?_)
        refine ⟨rfl, rfl, rfl, more S w8 w9, ?_, fun k hk => ?_, (Keeps.of_ext (hxW7.trans' hx8) S).trans' hm3⟩
        · unfold rcvD
          rw [hN, hb, if_pos (by omega)]
          exact hm2
        · have := hxW7.size
          have := hx8.size
          rcases hk with hk | hk
          · exact .inl hk
          · exact .inr (by omega)
      · have hneg := of_decide_eq_false hh
        clear hh
        refine go_Wal5 (k := ?_)
        refine ⟨rfl, rfl, rfl, S, ?_, fun k hk => .inl hk, Keeps.of_ext hxW7 S⟩
        unfold rcvD
        rw [hN, hb, if_neg (by omega)]
        exact hdW7
    rintro e9 w9 ⟨p2, p3, S', hd9, hS9, hk9⟩
    rw [upd_self p2, upd_self p3]
    have z9 := hk9.size
    have hSw : ∀ k, S k → k < w.heap.size := hbd
    have hcell9 := hcell.keeps hk9 (fun hh => by have := hSw _ hh; omega)
    have hrow9 := hG.rows.keeps hk9 (fun ad ha hh => by have := hSw _ hh; have := hG.bd _ (hG.inA ad ha); omega) (fun u hu k hk hh => by have := hSw _ hh; have := hG.bd _ (hG.inV u hu k hk); omega)
    refine go_Wal5 (k := ?_)
    refine OW_isLoad ?_
    refine OW_loadBk one_bytess rfl hcell9 (.slice A2 (xs.map Prod.snd).length c2) rfl ?_
    refine go_Wal5 (k := ?_)
    have hA2 : A2 = none ∨ ∃ g, A2 = some ⟨g, 0, none⟩ := by
      rcases own_at hrow9.row with h | ⟨g, cur, h, _⟩
      · exact .inl h
      · exact .inr ⟨g, h⟩
    refine OW_callV Try.func63 (by kernel_rfl) rfl (clip_any w9 A2 (xs.map Prod.snd).length c2 hA2 (own_cap hrow9.row).1) rfl ?_
    intro w10 hx10
    have hcell10 := hcell9.ext hx10
    have hrow10 := hrow9.ext hx10
    refine go_Wal5 (k := ?_)
    refine OW_storeB one_bytess rfl (.slice A2 (xs.map Prod.snd).length (xs.map Prod.snd).length) rfl rfl hcell10 Nat.one_pos ?_
    intro w11 hb11 hg11
    have hb11 : Blk w11 g2 22 #[.slice A2 (xs.map Prod.snd).length (xs.map Prod.snd).length] := hb11
    have hk11 : Keeps w10 w11 (· = g2) := Keeps.of_only hg11 rfl
    have z10 := hx10.size
    have z11 := hk11.size
    have hrow11 := hrow10.keeps hk11 (fun ad ha => own_ne_blk hrow10.row hcell10 (by decide) ad ha) (fun u hu k ⟨ad, ha, hb⟩ hk => own_ne_blk (hrow10.each u hu) hcell10 (by decide) ad ha (by rw [hb, hk]))
    have hd11 := (hd9.ext hx10).keeps hk11 (fun k hk hh => by
      have hh : k = g2 := hh
      rcases hS9 k hk with h1 | h1
      · have := hSw _ h1; omega
      · omega)
    have hlt11 : w4.heap.size < w11.heap.size := by
      have := (Array.getElem?_eq_some_iff.1 hD).1
      have hz : W.heap.size = W.heap.size := rfl
      have : w4.heap.size < W.heap.size := (Array.getElem?_eq_some_iff.1 hD).1
      omega
    have hDW : w4.heap.size < W.heap.size := (Array.getElem?_eq_some_iff.1 hD).1
    have hD11 : w11.heap[w4.heap.size]? = some (.deferred (some [])) := by
      rw [hk11.block _ (by omega) (by omega)]
      rw [hx10.block _ (by omega)]
      rw [hk9.block _ hDW (fun hh => by have := hSw _ hh; omega)]
      exact hD
    refine go_Wal5 (k := ?_)
    have hkD : Keeps w11 (w11.putObj w4.heap.size (.deferred none)) (· = w4.heap.size) := Keeps.put _ _ _
    have hDne : ∀ k, S2 k → k ≠ w4.heap.size := fun k hk => (hn k ((hS k).2 (.inl hk))).1
    have hrowD := hrow11.keeps hkD (fun ad ha hh => hDne _ (hG.inA ad ha) hh) (fun u hu k hk hh => hDne _ (hG.inV u hu k hk) hh)
    have hdD := hd11.keeps hkD (fun k hk hh => by
      have hh : k = w4.heap.size := hh
      rcases hS9 k hk with h1 | h1
      · have := hSw _ h1; omega
      · omega)
    refine leaveM_of hD11 (bodyE_retc1tt rfl one_bytess rfl ((hb11.keeps hkD (by omega)).cell 0) rfl rfl ⟨A2, xs.map Prod.snd, S', ?_, by rw [hb]; exact hS', hdD, fun k hk => ?_, ?_, fun u hu => ?_⟩)
    · rw [hN, hb]
      rfl
    · rcases hS9 k hk with h1 | h1
      · exact .inl h1
      · exact .inr (by omega)
    · have hk10 : Keeps w w10 S := ((Keeps.of_ext hx0 S).trans' hk9).trans' (Keeps.of_ext hx10 S)
      have hk11' : Keeps w w11 S := hk10.trans_more (hk11.mono fun k _ hk => by have hk : k = g2 := hk; exact .inr ⟨by omega, by omega⟩)
      exact hk11'.trans_more (hkD.mono fun k _ hk => by have hk : k = w4.heap.size := hk; have := hx04.size; exact .inr ⟨by omega, by omega⟩)
    · exact (hrowD.keeps hu (fun ad ha hh => by
        have := hG.bd _ (hG.inA ad ha)
        rcases hh with hh | hh
        · rcases hS9 _ hh with h1 | h1
          · have := hSw _ h1; omega
          · omega
        · omega) (fun v hv k hk hh => by
        have := hG.bd _ (hG.inV v hv k hk)
        rcases hh with hh | hh
        · rcases hS9 _ hh with h1 | h1
          · have := hSw _ h1; omega
          · omega
        · omega)).arg
end Go.Proofs.Ytnfeibbnjdegfaa
