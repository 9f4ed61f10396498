/- Several texts in one, as they stand in wip/src. -/
import Derived.Test.YtdpcahfgdpikfaaGt4
import Derived.Test.YtdpcahfgdpikfaaGt5
import Derived.Test.YtdpcahfgdpikfaaGt6
/- Walks: SHA's small functions, the program's and the reference's. -/
namespace Go.Proofs.Ytdpcahfgdpikfaa
open Go Go.RowKit
set_option linter.unusedVariables false
set_option maxRecDepth 4000

theorem go_Sha1 {A B : Prop} (h : Held B → A := by
  intro hEnd
  repeat (first | refine OW_addW rfl rfl ?_ | refine OW_andW rfl rfl ?_ | refine OW_orW rfl rfl ?_ | refine OW_xorW rfl rfl ?_ | refine OW_notW rfl ?_ | refine OW_shrW _ rfl rfl rfl (by omega) ?_ | refine OW_shlV _ rfl rfl (by omega) ?_ | refine OW_moveV (.int _ _) rfl ?_ | refine OW_moveV (.slice _ _ _) rfl ?_ | refine OW_moveV (.bool _) rfl ?_ | refine OW_moveV (.pointer _) rfl ?_ | refine OW_moveV (.string _) rfl ?_ | refine OW_moveV (.agg _) rfl ?_ | refine OW_moveV (.tuple _) rfl ?_ | refine OW_nil ?_ | refine thenE_normal ?_ | refine CW_seq ?_ | refine CW_region (by kernel_rfl) ?_ | refine OW_assignV (.int _ _) rfl ?_ | refine OW_assignV (.slice _ _ _) rfl ?_ | refine OW_assignV (.bool _) rfl ?_ | refine OW_assignV (.pointer _) rfl ?_ | refine OW_assignV (.string _) rfl ?_ | refine OW_assignV (.agg _) rfl ?_ | refine OW_assignV (.tuple _) rfl ?_ | refine OW_addI rfl rfl (by omega) ?_ | refine OW_subI rfl rfl (by omega) ?_ | refine OW_mulI rfl rfl (by omega) ?_ | refine OW_lss rfl rfl ?_ | refine OW_extract rfl rfl ?_ | refine OW_gtr rfl rfl ?_ | refine OW_leq rfl rfl ?_ | refine OW_geq rfl rfl ?_ | refine OW_eql rfl rfl ?_ | refine OW_neq rfl rfl ?_ | refine OW_not rfl ?_ | refine OW_pickT rfl _ rfl ?_ | refine OW_pickF rfl (.bool _) rfl ?_ | refine OW_pickB rfl rfl rfl ?_ | refine OW_move ?_ | refine OW_assign ?_ | refine OW_pass rfl ?_ | refine OW_take rfl ?_ | refine OW_lenS (by first | with_reducible exact und_bytes | with_reducible exact und_bytess) rfl ?_ | refine OW_convInt (by first | with_reducible exact und_u8 | with_reducible exact und_u64 | with_reducible exact und_int | with_reducible exact und_u32) (by first | with_reducible exact und_u8 | with_reducible exact und_u64 | with_reducible exact und_int | with_reducible exact und_u32) rfl ?_ | refine OW_add rfl rfl ?_ | refine OW_sub rfl rfl ?_ | refine OW_mul rfl rfl ?_ | refine OW_min2 rfl rfl ?_ | refine OW_max2 rfl rfl ?_ | refine OW_neg rfl ?_ | refine CW_block ?_ | refine CW_condT rfl ?_ | refine CW_condF rfl ?_ | refine CW_exit ?_ | refine CW_ret ?_ | refine CW_skip ?_ | refine LW_seq ?_ | refine LW_regC ?_ | refine LW_condC ?_ | refine LW_regF ?_ | refine LW_condF ?_ | refine FW_seq ?_ | refine FW_region (by kernel_rfl) ?_ | refine FW_block ?_ | refine FW_condT rfl ?_ | refine FW_condF rfl ?_ | refine FW_exit ?_ | refine FW_ret ?_ | refine FW_skip ?_ | refine LW_ret ?_ | refine LW_skip ?_ | refine thenE_exit ?_ | refine thenE_ret ?_ | refine inBlockE_normal ?_ | refine inBlockE_same ?_ | refine inBlockE_ret ?_ | refine inBlockE_ne (by rfl) ?_ | refine OW_eqlB (by with_reducible exact und_bool) rfl rfl ?_ | refine OW_neqB (by with_reducible exact und_bool) rfl rfl ?_ | refine OW_idxS (by with_reducible exact und_bytes) one_u8 rfl rfl _ rfl (by omega) ?_ | refine OW_idxS (by with_reducible exact und_bytess) one_bytes rfl rfl _ rfl (by omega) ?_ | refine OW_load1 (by first | with_reducible exact one_u8 | with_reducible exact one_bytes) rfl _ (by assumption) ?_)
  exact hEnd.out) (k : B) : A := h ⟨k⟩
theorem oy_Sha1 {A B : Prop} (h : Held B → A := by
  intro hEnd
  repeat (first
    | refine OY_done ?_
    | (apply OY_p _ rfl
       · intro wd
         (first | refine OW_addW rfl rfl ?_ | refine OW_andW rfl rfl ?_ | refine OW_orW rfl rfl ?_ | refine OW_xorW rfl rfl ?_ | refine OW_notW rfl ?_ | refine OW_shrW _ rfl rfl rfl (by omega) ?_ | refine OW_shlV _ rfl rfl (by omega) ?_ | refine OW_moveV (.int _ _) rfl ?_ | refine OW_moveV (.slice _ _ _) rfl ?_ | refine OW_moveV (.bool _) rfl ?_ | refine OW_moveV (.pointer _) rfl ?_ | refine OW_moveV (.string _) rfl ?_ | refine OW_moveV (.agg _) rfl ?_ | refine OW_moveV (.tuple _) rfl ?_ | refine OW_nil ?_ | refine thenE_normal ?_ | refine CW_seq ?_ | refine CW_region (by kernel_rfl) ?_ | refine OW_assignV (.int _ _) rfl ?_ | refine OW_assignV (.slice _ _ _) rfl ?_ | refine OW_assignV (.bool _) rfl ?_ | refine OW_assignV (.pointer _) rfl ?_ | refine OW_assignV (.string _) rfl ?_ | refine OW_assignV (.agg _) rfl ?_ | refine OW_assignV (.tuple _) rfl ?_ | refine OW_addI rfl rfl (by omega) ?_ | refine OW_subI rfl rfl (by omega) ?_ | refine OW_mulI rfl rfl (by omega) ?_ | refine OW_lss rfl rfl ?_ | refine OW_extract rfl rfl ?_ | refine OW_gtr rfl rfl ?_ | refine OW_leq rfl rfl ?_ | refine OW_geq rfl rfl ?_ | refine OW_eql rfl rfl ?_ | refine OW_neq rfl rfl ?_ | refine OW_not rfl ?_ | refine OW_pickT rfl _ rfl ?_ | refine OW_pickF rfl (.bool _) rfl ?_ | refine OW_pickB rfl rfl rfl ?_ | refine OW_move ?_ | refine OW_assign ?_ | refine OW_pass rfl ?_ | refine OW_take rfl ?_ | refine OW_lenS (by first | with_reducible exact und_bytes | with_reducible exact und_bytess) rfl ?_ | refine OW_convInt (by first | with_reducible exact und_u8 | with_reducible exact und_u64 | with_reducible exact und_int | with_reducible exact und_u32) (by first | with_reducible exact und_u8 | with_reducible exact und_u64 | with_reducible exact und_int | with_reducible exact und_u32) rfl ?_ | refine OW_add rfl rfl ?_ | refine OW_sub rfl rfl ?_ | refine OW_mul rfl rfl ?_ | refine OW_min2 rfl rfl ?_ | refine OW_max2 rfl rfl ?_ | refine OW_neg rfl ?_ | refine CW_block ?_ | refine CW_condT rfl ?_ | refine CW_condF rfl ?_ | refine CW_exit ?_ | refine CW_ret ?_ | refine CW_skip ?_ | refine LW_seq ?_ | refine LW_regC ?_ | refine LW_condC ?_ | refine LW_regF ?_ | refine LW_condF ?_ | refine FW_seq ?_ | refine FW_region (by kernel_rfl) ?_ | refine FW_block ?_ | refine FW_condT rfl ?_ | refine FW_condF rfl ?_ | refine FW_exit ?_ | refine FW_ret ?_ | refine FW_skip ?_ | refine LW_ret ?_ | refine LW_skip ?_ | refine thenE_exit ?_ | refine thenE_ret ?_ | refine inBlockE_normal ?_ | refine inBlockE_same ?_ | refine inBlockE_ret ?_ | refine inBlockE_ne (by rfl) ?_ | refine OW_eqlB (by with_reducible exact und_bool) rfl rfl ?_ | refine OW_neqB (by with_reducible exact und_bool) rfl rfl ?_ | refine OW_idxS (by with_reducible exact und_bytes) one_u8 rfl rfl _ rfl (by omega) ?_ | refine OW_idxS (by with_reducible exact und_bytess) one_bytes rfl rfl _ rfl (by omega) ?_ | refine OW_load1 (by first | with_reducible exact one_u8 | with_reducible exact one_bytes) rfl _ (by assumption) ?_)
         refine OW_nil ?_
         exact stay_mk _ _ _ _)
    | (apply OY_q _ rfl
       · intro wd hwd
         (first | refine OW_addW rfl rfl ?_ | refine OW_andW rfl rfl ?_ | refine OW_orW rfl rfl ?_ | refine OW_xorW rfl rfl ?_ | refine OW_notW rfl ?_ | refine OW_shrW _ rfl rfl rfl (by omega) ?_ | refine OW_shlV _ rfl rfl (by omega) ?_ | refine OW_moveV (.int _ _) rfl ?_ | refine OW_moveV (.slice _ _ _) rfl ?_ | refine OW_moveV (.bool _) rfl ?_ | refine OW_moveV (.pointer _) rfl ?_ | refine OW_moveV (.string _) rfl ?_ | refine OW_moveV (.agg _) rfl ?_ | refine OW_moveV (.tuple _) rfl ?_ | refine OW_nil ?_ | refine thenE_normal ?_ | refine CW_seq ?_ | refine CW_region (by kernel_rfl) ?_ | refine OW_assignV (.int _ _) rfl ?_ | refine OW_assignV (.slice _ _ _) rfl ?_ | refine OW_assignV (.bool _) rfl ?_ | refine OW_assignV (.pointer _) rfl ?_ | refine OW_assignV (.string _) rfl ?_ | refine OW_assignV (.agg _) rfl ?_ | refine OW_assignV (.tuple _) rfl ?_ | refine OW_addI rfl rfl (by omega) ?_ | refine OW_subI rfl rfl (by omega) ?_ | refine OW_mulI rfl rfl (by omega) ?_ | refine OW_lss rfl rfl ?_ | refine OW_extract rfl rfl ?_ | refine OW_gtr rfl rfl ?_ | refine OW_leq rfl rfl ?_ | refine OW_geq rfl rfl ?_ | refine OW_eql rfl rfl ?_ | refine OW_neq rfl rfl ?_ | refine OW_not rfl ?_ | refine OW_pickT rfl _ rfl ?_ | refine OW_pickF rfl (.bool _) rfl ?_ | refine OW_pickB rfl rfl rfl ?_ | refine OW_move ?_ | refine OW_assign ?_ | refine OW_pass rfl ?_ | refine OW_take rfl ?_ | refine OW_lenS (by first | with_reducible exact und_bytes | with_reducible exact und_bytess) rfl ?_ | refine OW_convInt (by first | with_reducible exact und_u8 | with_reducible exact und_u64 | with_reducible exact und_int | with_reducible exact und_u32) (by first | with_reducible exact und_u8 | with_reducible exact und_u64 | with_reducible exact und_int | with_reducible exact und_u32) rfl ?_ | refine OW_add rfl rfl ?_ | refine OW_sub rfl rfl ?_ | refine OW_mul rfl rfl ?_ | refine OW_min2 rfl rfl ?_ | refine OW_max2 rfl rfl ?_ | refine OW_neg rfl ?_ | refine CW_block ?_ | refine CW_condT rfl ?_ | refine CW_condF rfl ?_ | refine CW_exit ?_ | refine CW_ret ?_ | refine CW_skip ?_ | refine LW_seq ?_ | refine LW_regC ?_ | refine LW_condC ?_ | refine LW_regF ?_ | refine LW_condF ?_ | refine FW_seq ?_ | refine FW_region (by kernel_rfl) ?_ | refine FW_block ?_ | refine FW_condT rfl ?_ | refine FW_condF rfl ?_ | refine FW_exit ?_ | refine FW_ret ?_ | refine FW_skip ?_ | refine LW_ret ?_ | refine LW_skip ?_ | refine thenE_exit ?_ | refine thenE_ret ?_ | refine inBlockE_normal ?_ | refine inBlockE_same ?_ | refine inBlockE_ret ?_ | refine inBlockE_ne (by rfl) ?_ | refine OW_eqlB (by with_reducible exact und_bool) rfl rfl ?_ | refine OW_neqB (by with_reducible exact und_bool) rfl rfl ?_ | refine OW_idxS (by with_reducible exact und_bytes) one_u8 rfl rfl _ rfl (by omega) ?_ | refine OW_idxS (by with_reducible exact und_bytess) one_bytes rfl rfl _ rfl (by omega) ?_ | refine OW_load1 (by first | with_reducible exact one_u8 | with_reducible exact one_bytes) rfl _ (by assumption) ?_ | (refine OW_isLoad ?_; refine OW_loadBk (by first | with_reducible exact one_u8 | with_reducible exact one_bytes | with_reducible exact one_bool | with_reducible exact one_int | with_reducible exact one_errno | with_reducible exact one_u32 | with_reducible exact one_u64 | with_reducible exact one_string) rfl (by apply_assumption; assumption) _ (by first | assumption | rfl) ?_) | refine OW_load1 (by first | with_reducible exact one_u8 | with_reducible exact one_bytes | with_reducible exact one_bool | with_reducible exact one_int | with_reducible exact one_errno | with_reducible exact one_u32 | with_reducible exact one_u64 | with_reducible exact one_string) rfl _ (by apply_assumption; assumption) ?_)
         refine OW_nil ?_
         exact stay_mk _ _ _ _)
    | refine OY_ppass rfl rfl ?_
    | refine OY_qpass rfl rfl ?_
    | (apply OY_ptake _ rfl rfl
       · intro wd
         (first | refine OW_addW rfl rfl ?_ | refine OW_andW rfl rfl ?_ | refine OW_orW rfl rfl ?_ | refine OW_xorW rfl rfl ?_ | refine OW_notW rfl ?_ | refine OW_shrW _ rfl rfl rfl (by omega) ?_ | refine OW_shlV _ rfl rfl (by omega) ?_ | refine OW_moveV (.int _ _) rfl ?_ | refine OW_moveV (.slice _ _ _) rfl ?_ | refine OW_moveV (.bool _) rfl ?_ | refine OW_moveV (.pointer _) rfl ?_ | refine OW_moveV (.string _) rfl ?_ | refine OW_moveV (.agg _) rfl ?_ | refine OW_moveV (.tuple _) rfl ?_ | refine OW_nil ?_ | refine thenE_normal ?_ | refine CW_seq ?_ | refine CW_region (by kernel_rfl) ?_ | refine OW_assignV (.int _ _) rfl ?_ | refine OW_assignV (.slice _ _ _) rfl ?_ | refine OW_assignV (.bool _) rfl ?_ | refine OW_assignV (.pointer _) rfl ?_ | refine OW_assignV (.string _) rfl ?_ | refine OW_assignV (.agg _) rfl ?_ | refine OW_assignV (.tuple _) rfl ?_ | refine OW_addI rfl rfl (by omega) ?_ | refine OW_subI rfl rfl (by omega) ?_ | refine OW_mulI rfl rfl (by omega) ?_ | refine OW_lss rfl rfl ?_ | refine OW_extract rfl rfl ?_ | refine OW_gtr rfl rfl ?_ | refine OW_leq rfl rfl ?_ | refine OW_geq rfl rfl ?_ | refine OW_eql rfl rfl ?_ | refine OW_neq rfl rfl ?_ | refine OW_not rfl ?_ | refine OW_pickT rfl _ rfl ?_ | refine OW_pickF rfl (.bool _) rfl ?_ | refine OW_pickB rfl rfl rfl ?_ | refine OW_move ?_ | refine OW_assign ?_ | refine OW_pass rfl ?_ | refine OW_take rfl ?_ | refine OW_lenS (by first | with_reducible exact und_bytes | with_reducible exact und_bytess) rfl ?_ | refine OW_convInt (by first | with_reducible exact und_u8 | with_reducible exact und_u64 | with_reducible exact und_int | with_reducible exact und_u32) (by first | with_reducible exact und_u8 | with_reducible exact und_u64 | with_reducible exact und_int | with_reducible exact und_u32) rfl ?_ | refine OW_add rfl rfl ?_ | refine OW_sub rfl rfl ?_ | refine OW_mul rfl rfl ?_ | refine OW_min2 rfl rfl ?_ | refine OW_max2 rfl rfl ?_ | refine OW_neg rfl ?_ | refine CW_block ?_ | refine CW_condT rfl ?_ | refine CW_condF rfl ?_ | refine CW_exit ?_ | refine CW_ret ?_ | refine CW_skip ?_ | refine LW_seq ?_ | refine LW_regC ?_ | refine LW_condC ?_ | refine LW_regF ?_ | refine LW_condF ?_ | refine FW_seq ?_ | refine FW_region (by kernel_rfl) ?_ | refine FW_block ?_ | refine FW_condT rfl ?_ | refine FW_condF rfl ?_ | refine FW_exit ?_ | refine FW_ret ?_ | refine FW_skip ?_ | refine LW_ret ?_ | refine LW_skip ?_ | refine thenE_exit ?_ | refine thenE_ret ?_ | refine inBlockE_normal ?_ | refine inBlockE_same ?_ | refine inBlockE_ret ?_ | refine inBlockE_ne (by rfl) ?_ | refine OW_eqlB (by with_reducible exact und_bool) rfl rfl ?_ | refine OW_neqB (by with_reducible exact und_bool) rfl rfl ?_ | refine OW_idxS (by with_reducible exact und_bytes) one_u8 rfl rfl _ rfl (by omega) ?_ | refine OW_idxS (by with_reducible exact und_bytess) one_bytes rfl rfl _ rfl (by omega) ?_ | refine OW_load1 (by first | with_reducible exact one_u8 | with_reducible exact one_bytes) rfl _ (by assumption) ?_)
         refine OW_nil ?_
         exact stay_mk _ _ _ _)
    | (apply OY_qtake _ rfl rfl
       · intro wd hwd
         (first | refine OW_addW rfl rfl ?_ | refine OW_andW rfl rfl ?_ | refine OW_orW rfl rfl ?_ | refine OW_xorW rfl rfl ?_ | refine OW_notW rfl ?_ | refine OW_shrW _ rfl rfl rfl (by omega) ?_ | refine OW_shlV _ rfl rfl (by omega) ?_ | refine OW_moveV (.int _ _) rfl ?_ | refine OW_moveV (.slice _ _ _) rfl ?_ | refine OW_moveV (.bool _) rfl ?_ | refine OW_moveV (.pointer _) rfl ?_ | refine OW_moveV (.string _) rfl ?_ | refine OW_moveV (.agg _) rfl ?_ | refine OW_moveV (.tuple _) rfl ?_ | refine OW_nil ?_ | refine thenE_normal ?_ | refine CW_seq ?_ | refine CW_region (by kernel_rfl) ?_ | refine OW_assignV (.int _ _) rfl ?_ | refine OW_assignV (.slice _ _ _) rfl ?_ | refine OW_assignV (.bool _) rfl ?_ | refine OW_assignV (.pointer _) rfl ?_ | refine OW_assignV (.string _) rfl ?_ | refine OW_assignV (.agg _) rfl ?_ | refine OW_assignV (.tuple _) rfl ?_ | refine OW_addI rfl rfl (by omega) ?_ | refine OW_subI rfl rfl (by omega) ?_ | refine OW_mulI rfl rfl (by omega) ?_ | refine OW_lss rfl rfl ?_ | refine OW_extract rfl rfl ?_ | refine OW_gtr rfl rfl ?_ | refine OW_leq rfl rfl ?_ | refine OW_geq rfl rfl ?_ | refine OW_eql rfl rfl ?_ | refine OW_neq rfl rfl ?_ | refine OW_not rfl ?_ | refine OW_pickT rfl _ rfl ?_ | refine OW_pickF rfl (.bool _) rfl ?_ | refine OW_pickB rfl rfl rfl ?_ | refine OW_move ?_ | refine OW_assign ?_ | refine OW_pass rfl ?_ | refine OW_take rfl ?_ | refine OW_lenS (by first | with_reducible exact und_bytes | with_reducible exact und_bytess) rfl ?_ | refine OW_convInt (by first | with_reducible exact und_u8 | with_reducible exact und_u64 | with_reducible exact und_int | with_reducible exact und_u32) (by first | with_reducible exact und_u8 | with_reducible exact und_u64 | with_reducible exact und_int | with_reducible exact und_u32) rfl ?_ | refine OW_add rfl rfl ?_ | refine OW_sub rfl rfl ?_ | refine OW_mul rfl rfl ?_ | refine OW_min2 rfl rfl ?_ | refine OW_max2 rfl rfl ?_ | refine OW_neg rfl ?_ | refine CW_block ?_ | refine CW_condT rfl ?_ | refine CW_condF rfl ?_ | refine CW_exit ?_ | refine CW_ret ?_ | refine CW_skip ?_ | refine LW_seq ?_ | refine LW_regC ?_ | refine LW_condC ?_ | refine LW_regF ?_ | refine LW_condF ?_ | refine FW_seq ?_ | refine FW_region (by kernel_rfl) ?_ | refine FW_block ?_ | refine FW_condT rfl ?_ | refine FW_condF rfl ?_ | refine FW_exit ?_ | refine FW_ret ?_ | refine FW_skip ?_ | refine LW_ret ?_ | refine LW_skip ?_ | refine thenE_exit ?_ | refine thenE_ret ?_ | refine inBlockE_normal ?_ | refine inBlockE_same ?_ | refine inBlockE_ret ?_ | refine inBlockE_ne (by rfl) ?_ | refine OW_eqlB (by with_reducible exact und_bool) rfl rfl ?_ | refine OW_neqB (by with_reducible exact und_bool) rfl rfl ?_ | refine OW_idxS (by with_reducible exact und_bytes) one_u8 rfl rfl _ rfl (by omega) ?_ | refine OW_idxS (by with_reducible exact und_bytess) one_bytes rfl rfl _ rfl (by omega) ?_ | refine OW_load1 (by first | with_reducible exact one_u8 | with_reducible exact one_bytes) rfl _ (by assumption) ?_ | (refine OW_isLoad ?_; refine OW_loadBk (by first | with_reducible exact one_u8 | with_reducible exact one_bytes | with_reducible exact one_bool | with_reducible exact one_int | with_reducible exact one_errno | with_reducible exact one_u32 | with_reducible exact one_u64 | with_reducible exact one_string) rfl (by apply_assumption; assumption) _ (by first | assumption | rfl) ?_) | refine OW_load1 (by first | with_reducible exact one_u8 | with_reducible exact one_bytes | with_reducible exact one_bool | with_reducible exact one_int | with_reducible exact one_errno | with_reducible exact one_u32 | with_reducible exact one_u64 | with_reducible exact one_string) rfl _ (by apply_assumption; assumption) ?_)
         refine OW_nil ?_
         exact stay_mk _ _ _ _)
    | refine OY_a (actY_of rfl ?_)
    | refine OY_d (actY_of rfl ?_)
    | refine OY_a (actY_pass rfl rfl ?_)
    | refine OY_d (actY_pass rfl rfl ?_)
    | refine OY_a (actY_take rfl rfl ?_)
    | refine OY_d (actY_take rfl rfl ?_))
  exact hEnd.out) (k : B) : A := h ⟨k⟩
theorem rotr_u (w : World) (x : UInt32) (k : Nat) (hk : k < 32) : Calls Try.prog 108 #[uv x, .int .i64 (k : Int)] w (RetV w (uv (rotU x k))) := by
  have := rotr_any w x.toNat k (u32_lt x) (by omega)
  rw [show rotK (k : Int) = k by unfold rotK; omega] at this
  rw [show (uv (rotU x k)) = .int .u32 ((rotS x.toNat k : Nat) : Int) by unfold uv; rw [rotU_nat x (by omega)]]
  exact this
theorem shr_u (w : World) (x : UInt32) (k : Nat) (hk : k < 32) : Calls Try.prog 109 #[uv x, .int .i64 (k : Int)] w (RetV w (uv (shU x k))) := by
  have := shr_any w x.toNat k (u32_lt x) (by omega)
  rw [show (uv (shU x k)) = .int .u32 ((shrS x.toNat k : Nat) : Int) by unfold uv shrS; rw [shU_nat, show min ((k : Int)).toNat 32 = k by omega]]
  exact this
set_option maxHeartbeats 8000000 in
theorem turned_any (w : World) (x : UInt32) (a b c : Nat) (ha : a < 32) (hb : b < 32) (hc : c < 32) : Calls Try.prog 99 #[uv x, .int .i64 (a : Int), .int .i64 (b : Int), .int .i64 (c : Int)] w (RetV w (uv (turnU x a b c))) := by
  refine calls_of_CW Try.func99 rfl (by simp [Try.ntmps99]) ?_
  rw [Try.ntmps99]
  refine go_Sha1 (k := ?_)
  refine OW_callV Try.func108 (by kernel_rfl) rfl (rotr_u _ x a ha) rfl ?_
  intro w1 hw1
  refine go_Sha1 (k := ?_)
  refine OW_callV Try.func108 (by kernel_rfl) rfl (rotr_u _ x b hb) rfl ?_
  intro w2 hw2
  refine go_Sha1 (k := ?_)
  refine OW_callV Try.func108 (by kernel_rfl) rfl (rotr_u _ x c hc) rfl ?_
  intro w3 hw3
  refine go_Sha1 (k := ?_)
  exact bodyE_ret1 rfl _ rfl ⟨rfl, (hw1.trans' hw2).trans' hw3⟩
set_option maxHeartbeats 8000000 in
theorem small_any (w : World) (x : UInt32) (a b c : Nat) (ha : a < 32) (hb : b < 32) (hc : c < 32) : Calls Try.prog 97 #[uv x, .int .i64 (a : Int), .int .i64 (b : Int), .int .i64 (c : Int)] w (RetV w (uv (smallU x a b c))) := by
  refine calls_of_CW Try.func97 rfl (by simp [Try.ntmps97]) ?_
  rw [Try.ntmps97]
  refine go_Sha1 (k := ?_)
  refine OW_callV Try.func108 (by kernel_rfl) rfl (rotr_u _ x a ha) rfl ?_
  intro w1 hw1
  refine go_Sha1 (k := ?_)
  refine OW_callV Try.func108 (by kernel_rfl) rfl (rotr_u _ x b hb) rfl ?_
  intro w2 hw2
  refine go_Sha1 (k := ?_)
  refine OW_callV Try.func109 (by kernel_rfl) rfl (shr_u _ x c hc) rfl ?_
  intro w3 hw3
  refine go_Sha1 (k := ?_)
  exact bodyE_ret1 rfl _ rfl ⟨rfl, (hw1.trans' hw2).trans' hw3⟩
set_option maxHeartbeats 8000000 in
theorem turns_any (w : World) (x : UInt32) (a b c : Nat) (ha : 0 < a ∧ a < 32) (hb : 0 < b ∧ b < 32) (hc : 0 < c ∧ c < 32) : Calls Try.prog 72 #[uv x, .int .i64 (a : Int), .int .i64 (b : Int), .int .i64 (c : Int)] w (RetV w (uv (turnU x a b c))) := by
  refine calls_of_CW Try.func72 rfl (by simp [Try.ntmps72]) ?_
  rw [Try.ntmps72]
  refine go_Sha1 (k := ?_)
  refine CW_tree2 [] (.p 0 (.p 1 (.p 2 (.p 3 (.p 4 (.p 5 (.p 6 (.p 7 (.p 8 (.p 9 (.p 10 (.p 11 (.p 12 (.p 13 (.p 14 (.p 15 (.p 16 (.p 17 (.p 18 (.p 19 (.p 20 (.p 21 (.p 22 (.p 23 (.p 24 (.p 25 (.p 26 .done))))))))))))))))))))))))))) (fun w' => Ext w w') (by kernel_rfl) (by kernel_rfl) (by kernel_rfl) ?_ ?_
  · exact fun _ h => h
  intro w1 hx1 hC1
  refine oy_Sha1 (k := ?_)
  rw [rot_shifts x ha.1 ha.2, rot_shifts x hb.1 hb.2, rot_shifts x hc.1 hc.2]
  refine go_Sha1 (k := ?_)
  exact bodyE_ret1 rfl _ rfl ⟨rfl, hx1⟩
set_option maxHeartbeats 8000000 in
theorem first_any (w : World) : Calls Try.prog 61 #[] w (RetV w (.agg iv8.cells.toArray)) := by
  refine calls_of_CW Try.func61 rfl (by simp [Try.ntmps61]) ?_
  rw [Try.ntmps61]
  refine go_Sha1 (k := ?_)
  refine OW_allocA agg_nums ?_
  intro w1 g1 hb1 hg1 hl1 hw1
  refine go_Sha1 (k := ?_)
  refine OW_buildA agg_nums und_nums one_u32 rfl iv8.cells (by kernel_rfl) rfl (uv_one _) ?_
  refine go_Sha1 (k := ?_)
  refine OW_storeA agg_nums rfl iv8.cells rfl rfl hb1 rfl (uv_one _) ?_
  intro w2 hb2 hgr
  refine go_Sha1 (k := ?_)
  exact bodyE_retc rfl agg_nums rfl iv8.cells rfl hb2.range ⟨rfl, Below.trans hw1 (only_below hgr hg1 hw1.size)⟩
set_option maxHeartbeats 8000000 in
theorem constants_any (w : World) : Calls Try.prog 98 #[] w (RetV w (.agg (kL.map uv).toArray)) := by
  refine calls_of_CW Try.func98 rfl (by simp [Try.ntmps98]) ?_
  rw [Try.ntmps98]
  refine go_Sha1 (k := ?_)
  refine OW_allocA agg_w64 ?_
  intro w1 g1 hb1 hg1 hl1 hw1
  refine go_Sha1 (k := ?_)
  refine OW_buildA agg_w64 und_w64 one_u32 rfl (kL.map uv) (by kernel_rfl) rfl (uv_one _) ?_
  refine go_Sha1 (k := ?_)
  refine OW_storeA agg_w64 rfl (kL.map uv) rfl rfl hb1 rfl (uv_one _) ?_
  intro w2 hb2 hgr
  refine go_Sha1 (k := ?_)
  exact bodyE_retc rfl agg_w64 rfl (kL.map uv) rfl hb2.range ⟨rfl, Below.trans hw1 (only_below hgr hg1 hw1.size)⟩
set_option maxHeartbeats 8000000 in
theorem refConstants_any (w : World) : Calls Try.prog 69 #[] w (fun en w' => ∃ g, en = .returned (.slice (some ⟨g, 0, none⟩) 64 64) ∧ Blk w' g 92 (kL.map uv).toArray ∧ w.heap.size ≤ g ∧ Ext w w') := by
  refine calls_of_CW Try.func69 rfl (by simp [Try.ntmps69]) ?_
  rw [Try.ntmps69]
  refine go_Sha1 (k := ?_)
  refine OW_lit (kL.map uv) und_u32s info_u32 (by kernel_rfl) rfl (uv_one _) (by decide) ?_
  intro w1 g1 hb1 hg1 hw1
  refine go_Sha1 (k := ?_)
  exact bodyE_ret1 rfl _ rfl ⟨g1, rfl, hb1, hg1, hw1⟩
end Go.Proofs.Ytdpcahfgdpikfaa

/- Walk: one block. -/
namespace Go.Proofs.Ytdpcahfgdpikfaa
open Go Go.RowKit
set_option linter.unusedVariables false
set_option maxRecDepth 4000

theorem go_Sha2 {A B : Prop} (h : Held B → A := by
  intro hEnd
  repeat (first | refine OW_addW rfl rfl ?_ | refine OW_andW rfl rfl ?_ | refine OW_orW rfl rfl ?_ | refine OW_xorW rfl rfl ?_ | refine OW_notW rfl ?_ | refine OW_idxAB (by first | with_reducible exact und_nums | with_reducible exact und_w64) one_u32 rfl rfl _ rfl (by omega) ?_ | refine OW_moveV (.int _ _) rfl ?_ | refine OW_moveV (.slice _ _ _) rfl ?_ | refine OW_moveV (.bool _) rfl ?_ | refine OW_moveV (.pointer _) rfl ?_ | refine OW_moveV (.string _) rfl ?_ | refine OW_moveV (.agg _) rfl ?_ | refine OW_moveV (.tuple _) rfl ?_ | refine OW_nil ?_ | refine thenE_normal ?_ | refine CW_seq ?_ | refine CW_region (by kernel_rfl) ?_ | refine OW_assignV (.int _ _) rfl ?_ | refine OW_assignV (.slice _ _ _) rfl ?_ | refine OW_assignV (.bool _) rfl ?_ | refine OW_assignV (.pointer _) rfl ?_ | refine OW_assignV (.string _) rfl ?_ | refine OW_assignV (.agg _) rfl ?_ | refine OW_assignV (.tuple _) rfl ?_ | refine OW_addI rfl rfl (by omega) ?_ | refine OW_subI rfl rfl (by omega) ?_ | refine OW_mulI rfl rfl (by omega) ?_ | refine OW_lss rfl rfl ?_ | refine OW_extract rfl rfl ?_ | refine OW_gtr rfl rfl ?_ | refine OW_leq rfl rfl ?_ | refine OW_geq rfl rfl ?_ | refine OW_eql rfl rfl ?_ | refine OW_neq rfl rfl ?_ | refine OW_not rfl ?_ | refine OW_pickT rfl _ rfl ?_ | refine OW_pickF rfl (.bool _) rfl ?_ | refine OW_pickB rfl rfl rfl ?_ | refine OW_move ?_ | refine OW_assign ?_ | refine OW_pass rfl ?_ | refine OW_take rfl ?_ | refine OW_lenS (by first | with_reducible exact und_bytes | with_reducible exact und_bytess) rfl ?_ | refine OW_convInt (by first | with_reducible exact und_u8 | with_reducible exact und_u64 | with_reducible exact und_int | with_reducible exact und_u32) (by first | with_reducible exact und_u8 | with_reducible exact und_u64 | with_reducible exact und_int | with_reducible exact und_u32) rfl ?_ | refine OW_add rfl rfl ?_ | refine OW_sub rfl rfl ?_ | refine OW_mul rfl rfl ?_ | refine OW_min2 rfl rfl ?_ | refine OW_max2 rfl rfl ?_ | refine OW_neg rfl ?_ | refine CW_block ?_ | refine CW_condT rfl ?_ | refine CW_condF rfl ?_ | refine CW_exit ?_ | refine CW_ret ?_ | refine CW_skip ?_ | refine LW_seq ?_ | refine LW_regC ?_ | refine LW_condC ?_ | refine LW_regF ?_ | refine LW_condF ?_ | refine FW_seq ?_ | refine FW_region (by kernel_rfl) ?_ | refine FW_block ?_ | refine FW_condT rfl ?_ | refine FW_condF rfl ?_ | refine FW_exit ?_ | refine FW_ret ?_ | refine FW_skip ?_ | refine LW_ret ?_ | refine LW_skip ?_ | refine thenE_exit ?_ | refine thenE_ret ?_ | refine inBlockE_normal ?_ | refine inBlockE_same ?_ | refine inBlockE_ret ?_ | refine inBlockE_ne (by rfl) ?_ | refine OW_eqlB (by with_reducible exact und_bool) rfl rfl ?_ | refine OW_neqB (by with_reducible exact und_bool) rfl rfl ?_ | refine OW_idxS (by with_reducible exact und_bytes) one_u8 rfl rfl _ rfl (by omega) ?_ | refine OW_idxS (by with_reducible exact und_bytess) one_bytes rfl rfl _ rfl (by omega) ?_ | refine OW_load1 (by first | with_reducible exact one_u8 | with_reducible exact one_bytes) rfl _ (by assumption) ?_ | refine OW_idxAI (by first | with_reducible exact und_nums | with_reducible exact und_w64) one_u32 rfl rfl (by omega) (by omega) ?_ | (refine OW_isLoad ?_; refine OW_loadBk one_u32 rfl (by assumption) _ (by first | assumption | rfl) ?_) | refine OW_sliceA und_nums one_u32 rfl ⟨_, rfl⟩ rfl 1 8 rfl rfl (by decide) (by decide) (by decide) ?_ | refine OW_sliceA und_nums one_u32 rfl rfl ⟨_, rfl⟩ 0 7 rfl rfl (by decide) (by decide) (by decide) ?_)
  exact hEnd.out) (k : B) : A := h ⟨k⟩
theorem oy_Sha2 {A B : Prop} (h : Held B → A := by
  intro hEnd
  repeat (first
    | refine OY_done ?_
    | (apply OY_p _ rfl
       · intro wd
         (first | refine OW_addW rfl rfl ?_ | refine OW_andW rfl rfl ?_ | refine OW_orW rfl rfl ?_ | refine OW_xorW rfl rfl ?_ | refine OW_notW rfl ?_ | refine OW_idxAB (by first | refine with_reducible exact und_nums | refine with_reducible exact und_w64) one_u32 rfl rfl _ rfl (by omega) ?_ | refine OW_moveV (.int _ _) rfl ?_ | refine OW_moveV (.slice _ _ _) rfl ?_ | refine OW_moveV (.bool _) rfl ?_ | refine OW_moveV (.pointer _) rfl ?_ | refine OW_moveV (.string _) rfl ?_ | refine OW_moveV (.agg _) rfl ?_ | refine OW_moveV (.tuple _) rfl ?_ | refine OW_nil ?_ | refine thenE_normal ?_ | refine CW_seq ?_ | refine CW_region (by kernel_rfl) ?_ | refine OW_assignV (.int _ _) rfl ?_ | refine OW_assignV (.slice _ _ _) rfl ?_ | refine OW_assignV (.bool _) rfl ?_ | refine OW_assignV (.pointer _) rfl ?_ | refine OW_assignV (.string _) rfl ?_ | refine OW_assignV (.agg _) rfl ?_ | refine OW_assignV (.tuple _) rfl ?_ | refine OW_addI rfl rfl (by omega) ?_ | refine OW_subI rfl rfl (by omega) ?_ | refine OW_mulI rfl rfl (by omega) ?_ | refine OW_lss rfl rfl ?_ | refine OW_extract rfl rfl ?_ | refine OW_gtr rfl rfl ?_ | refine OW_leq rfl rfl ?_ | refine OW_geq rfl rfl ?_ | refine OW_eql rfl rfl ?_ | refine OW_neq rfl rfl ?_ | refine OW_not rfl ?_ | refine OW_pickT rfl _ rfl ?_ | refine OW_pickF rfl (.bool _) rfl ?_ | refine OW_pickB rfl rfl rfl ?_ | refine OW_move ?_ | refine OW_assign ?_ | refine OW_pass rfl ?_ | refine OW_take rfl ?_ | refine OW_lenS (by first | with_reducible exact und_bytes | with_reducible exact und_bytess) rfl ?_ | refine OW_convInt (by first | with_reducible exact und_u8 | with_reducible exact und_u64 | with_reducible exact und_int | with_reducible exact und_u32) (by first | with_reducible exact und_u8 | with_reducible exact und_u64 | with_reducible exact und_int | with_reducible exact und_u32) rfl ?_ | refine OW_add rfl rfl ?_ | refine OW_sub rfl rfl ?_ | refine OW_mul rfl rfl ?_ | refine OW_min2 rfl rfl ?_ | refine OW_max2 rfl rfl ?_ | refine OW_neg rfl ?_ | refine CW_block ?_ | refine CW_condT rfl ?_ | refine CW_condF rfl ?_ | refine CW_exit ?_ | refine CW_ret ?_ | refine CW_skip ?_ | refine LW_seq ?_ | refine LW_regC ?_ | refine LW_condC ?_ | refine LW_regF ?_ | refine LW_condF ?_ | refine FW_seq ?_ | refine FW_region (by kernel_rfl) ?_ | refine FW_block ?_ | refine FW_condT rfl ?_ | refine FW_condF rfl ?_ | refine FW_exit ?_ | refine FW_ret ?_ | refine FW_skip ?_ | refine LW_ret ?_ | refine LW_skip ?_ | refine thenE_exit ?_ | refine thenE_ret ?_ | refine inBlockE_normal ?_ | refine inBlockE_same ?_ | refine inBlockE_ret ?_ | refine inBlockE_ne (by rfl) ?_ | refine OW_eqlB (by with_reducible exact und_bool) rfl rfl ?_ | refine OW_neqB (by with_reducible exact und_bool) rfl rfl ?_ | refine OW_idxS (by with_reducible exact und_bytes) one_u8 rfl rfl _ rfl (by omega) ?_ | refine OW_idxS (by with_reducible exact und_bytess) one_bytes rfl rfl _ rfl (by omega) ?_ | refine OW_load1 (by first | with_reducible exact one_u8 | with_reducible exact one_bytes) rfl _ (by assumption) ?_ | refine OW_idxAI (by first | with_reducible exact und_nums | with_reducible exact und_w64) one_u32 rfl rfl (by omega) (by omega) ?_ | (refine OW_isLoad ?_; refine OW_loadBk one_u32 rfl (by assumption) _ (by first | assumption | rfl) ?_) | refine OW_sliceA und_nums one_u32 rfl ⟨_, rfl⟩ rfl 1 8 rfl rfl (by decide) (by decide) (by decide) ?_ | refine OW_sliceA und_nums one_u32 rfl rfl ⟨_, rfl⟩ 0 7 rfl rfl (by decide) (by decide) (by decide) ?_)
         refine OW_nil ?_
         exact stay_mk _ _ _ _)
    | (apply OY_q _ rfl
       · intro wd hwd
         (first | refine OW_addW rfl rfl ?_ | refine OW_andW rfl rfl ?_ | refine OW_orW rfl rfl ?_ | refine OW_xorW rfl rfl ?_ | refine OW_notW rfl ?_ | refine OW_idxAB (by first | refine with_reducible exact und_nums | refine with_reducible exact und_w64) one_u32 rfl rfl _ rfl (by omega) ?_ | refine OW_moveV (.int _ _) rfl ?_ | refine OW_moveV (.slice _ _ _) rfl ?_ | refine OW_moveV (.bool _) rfl ?_ | refine OW_moveV (.pointer _) rfl ?_ | refine OW_moveV (.string _) rfl ?_ | refine OW_moveV (.agg _) rfl ?_ | refine OW_moveV (.tuple _) rfl ?_ | refine OW_nil ?_ | refine thenE_normal ?_ | refine CW_seq ?_ | refine CW_region (by kernel_rfl) ?_ | refine OW_assignV (.int _ _) rfl ?_ | refine OW_assignV (.slice _ _ _) rfl ?_ | refine OW_assignV (.bool _) rfl ?_ | refine OW_assignV (.pointer _) rfl ?_ | refine OW_assignV (.string _) rfl ?_ | refine OW_assignV (.agg _) rfl ?_ | refine OW_assignV (.tuple _) rfl ?_ | refine OW_addI rfl rfl (by omega) ?_ | refine OW_subI rfl rfl (by omega) ?_ | refine OW_mulI rfl rfl (by omega) ?_ | refine OW_lss rfl rfl ?_ | refine OW_extract rfl rfl ?_ | refine OW_gtr rfl rfl ?_ | refine OW_leq rfl rfl ?_ | refine OW_geq rfl rfl ?_ | refine OW_eql rfl rfl ?_ | refine OW_neq rfl rfl ?_ | refine OW_not rfl ?_ | refine OW_pickT rfl _ rfl ?_ | refine OW_pickF rfl (.bool _) rfl ?_ | refine OW_pickB rfl rfl rfl ?_ | refine OW_move ?_ | refine OW_assign ?_ | refine OW_pass rfl ?_ | refine OW_take rfl ?_ | refine OW_lenS (by first | with_reducible exact und_bytes | with_reducible exact und_bytess) rfl ?_ | refine OW_convInt (by first | with_reducible exact und_u8 | with_reducible exact und_u64 | with_reducible exact und_int | with_reducible exact und_u32) (by first | with_reducible exact und_u8 | with_reducible exact und_u64 | with_reducible exact und_int | with_reducible exact und_u32) rfl ?_ | refine OW_add rfl rfl ?_ | refine OW_sub rfl rfl ?_ | refine OW_mul rfl rfl ?_ | refine OW_min2 rfl rfl ?_ | refine OW_max2 rfl rfl ?_ | refine OW_neg rfl ?_ | refine CW_block ?_ | refine CW_condT rfl ?_ | refine CW_condF rfl ?_ | refine CW_exit ?_ | refine CW_ret ?_ | refine CW_skip ?_ | refine LW_seq ?_ | refine LW_regC ?_ | refine LW_condC ?_ | refine LW_regF ?_ | refine LW_condF ?_ | refine FW_seq ?_ | refine FW_region (by kernel_rfl) ?_ | refine FW_block ?_ | refine FW_condT rfl ?_ | refine FW_condF rfl ?_ | refine FW_exit ?_ | refine FW_ret ?_ | refine FW_skip ?_ | refine LW_ret ?_ | refine LW_skip ?_ | refine thenE_exit ?_ | refine thenE_ret ?_ | refine inBlockE_normal ?_ | refine inBlockE_same ?_ | refine inBlockE_ret ?_ | refine inBlockE_ne (by rfl) ?_ | refine OW_eqlB (by with_reducible exact und_bool) rfl rfl ?_ | refine OW_neqB (by with_reducible exact und_bool) rfl rfl ?_ | refine OW_idxS (by with_reducible exact und_bytes) one_u8 rfl rfl _ rfl (by omega) ?_ | refine OW_idxS (by with_reducible exact und_bytess) one_bytes rfl rfl _ rfl (by omega) ?_ | refine OW_load1 (by first | with_reducible exact one_u8 | with_reducible exact one_bytes) rfl _ (by assumption) ?_ | refine OW_idxAI (by first | with_reducible exact und_nums | with_reducible exact und_w64) one_u32 rfl rfl (by omega) (by omega) ?_ | (refine OW_isLoad ?_; refine OW_loadBk one_u32 rfl (by assumption) _ (by first | assumption | rfl) ?_) | refine OW_sliceA und_nums one_u32 rfl ⟨_, rfl⟩ rfl 1 8 rfl rfl (by decide) (by decide) (by decide) ?_ | refine OW_sliceA und_nums one_u32 rfl rfl ⟨_, rfl⟩ 0 7 rfl rfl (by decide) (by decide) (by decide) ?_ | (refine OW_isLoad ?_; refine OW_loadBk (by first | with_reducible exact one_u8 | with_reducible exact one_bytes | with_reducible exact one_bool | with_reducible exact one_int | with_reducible exact one_errno | with_reducible exact one_u32 | with_reducible exact one_u64 | with_reducible exact one_string) rfl (by apply_assumption; assumption) _ (by first | assumption | rfl) ?_) | refine OW_load1 (by first | with_reducible exact one_u8 | with_reducible exact one_bytes | with_reducible exact one_bool | with_reducible exact one_int | with_reducible exact one_errno | with_reducible exact one_u32 | with_reducible exact one_u64 | with_reducible exact one_string) rfl _ (by apply_assumption; assumption) ?_)
         refine OW_nil ?_
         exact stay_mk _ _ _ _)
    | refine OY_ppass rfl rfl ?_
    | refine OY_qpass rfl rfl ?_
    | (apply OY_ptake _ rfl rfl
       · intro wd
         (first | refine OW_addW rfl rfl ?_ | refine OW_andW rfl rfl ?_ | refine OW_orW rfl rfl ?_ | refine OW_xorW rfl rfl ?_ | refine OW_notW rfl ?_ | refine OW_idxAB (by first | refine with_reducible exact und_nums | refine with_reducible exact und_w64) one_u32 rfl rfl _ rfl (by omega) ?_ | refine OW_moveV (.int _ _) rfl ?_ | refine OW_moveV (.slice _ _ _) rfl ?_ | refine OW_moveV (.bool _) rfl ?_ | refine OW_moveV (.pointer _) rfl ?_ | refine OW_moveV (.string _) rfl ?_ | refine OW_moveV (.agg _) rfl ?_ | refine OW_moveV (.tuple _) rfl ?_ | refine OW_nil ?_ | refine thenE_normal ?_ | refine CW_seq ?_ | refine CW_region (by kernel_rfl) ?_ | refine OW_assignV (.int _ _) rfl ?_ | refine OW_assignV (.slice _ _ _) rfl ?_ | refine OW_assignV (.bool _) rfl ?_ | refine OW_assignV (.pointer _) rfl ?_ | refine OW_assignV (.string _) rfl ?_ | refine OW_assignV (.agg _) rfl ?_ | refine OW_assignV (.tuple _) rfl ?_ | refine OW_addI rfl rfl (by omega) ?_ | refine OW_subI rfl rfl (by omega) ?_ | refine OW_mulI rfl rfl (by omega) ?_ | refine OW_lss rfl rfl ?_ | refine OW_extract rfl rfl ?_ | refine OW_gtr rfl rfl ?_ | refine OW_leq rfl rfl ?_ | refine OW_geq rfl rfl ?_ | refine OW_eql rfl rfl ?_ | refine OW_neq rfl rfl ?_ | refine OW_not rfl ?_ | refine OW_pickT rfl _ rfl ?_ | refine OW_pickF rfl (.bool _) rfl ?_ | refine OW_pickB rfl rfl rfl ?_ | refine OW_move ?_ | refine OW_assign ?_ | refine OW_pass rfl ?_ | refine OW_take rfl ?_ | refine OW_lenS (by first | with_reducible exact und_bytes | with_reducible exact und_bytess) rfl ?_ | refine OW_convInt (by first | with_reducible exact und_u8 | with_reducible exact und_u64 | with_reducible exact und_int | with_reducible exact und_u32) (by first | with_reducible exact und_u8 | with_reducible exact und_u64 | with_reducible exact und_int | with_reducible exact und_u32) rfl ?_ | refine OW_add rfl rfl ?_ | refine OW_sub rfl rfl ?_ | refine OW_mul rfl rfl ?_ | refine OW_min2 rfl rfl ?_ | refine OW_max2 rfl rfl ?_ | refine OW_neg rfl ?_ | refine CW_block ?_ | refine CW_condT rfl ?_ | refine CW_condF rfl ?_ | refine CW_exit ?_ | refine CW_ret ?_ | refine CW_skip ?_ | refine LW_seq ?_ | refine LW_regC ?_ | refine LW_condC ?_ | refine LW_regF ?_ | refine LW_condF ?_ | refine FW_seq ?_ | refine FW_region (by kernel_rfl) ?_ | refine FW_block ?_ | refine FW_condT rfl ?_ | refine FW_condF rfl ?_ | refine FW_exit ?_ | refine FW_ret ?_ | refine FW_skip ?_ | refine LW_ret ?_ | refine LW_skip ?_ | refine thenE_exit ?_ | refine thenE_ret ?_ | refine inBlockE_normal ?_ | refine inBlockE_same ?_ | refine inBlockE_ret ?_ | refine inBlockE_ne (by rfl) ?_ | refine OW_eqlB (by with_reducible exact und_bool) rfl rfl ?_ | refine OW_neqB (by with_reducible exact und_bool) rfl rfl ?_ | refine OW_idxS (by with_reducible exact und_bytes) one_u8 rfl rfl _ rfl (by omega) ?_ | refine OW_idxS (by with_reducible exact und_bytess) one_bytes rfl rfl _ rfl (by omega) ?_ | refine OW_load1 (by first | with_reducible exact one_u8 | with_reducible exact one_bytes) rfl _ (by assumption) ?_ | refine OW_idxAI (by first | with_reducible exact und_nums | with_reducible exact und_w64) one_u32 rfl rfl (by omega) (by omega) ?_ | (refine OW_isLoad ?_; refine OW_loadBk one_u32 rfl (by assumption) _ (by first | assumption | rfl) ?_) | refine OW_sliceA und_nums one_u32 rfl ⟨_, rfl⟩ rfl 1 8 rfl rfl (by decide) (by decide) (by decide) ?_ | refine OW_sliceA und_nums one_u32 rfl rfl ⟨_, rfl⟩ 0 7 rfl rfl (by decide) (by decide) (by decide) ?_)
         refine OW_nil ?_
         exact stay_mk _ _ _ _)
    | (apply OY_qtake _ rfl rfl
       · intro wd hwd
         (first | refine OW_addW rfl rfl ?_ | refine OW_andW rfl rfl ?_ | refine OW_orW rfl rfl ?_ | refine OW_xorW rfl rfl ?_ | refine OW_notW rfl ?_ | refine OW_idxAB (by first | refine with_reducible exact und_nums | refine with_reducible exact und_w64) one_u32 rfl rfl _ rfl (by omega) ?_ | refine OW_moveV (.int _ _) rfl ?_ | refine OW_moveV (.slice _ _ _) rfl ?_ | refine OW_moveV (.bool _) rfl ?_ | refine OW_moveV (.pointer _) rfl ?_ | refine OW_moveV (.string _) rfl ?_ | refine OW_moveV (.agg _) rfl ?_ | refine OW_moveV (.tuple _) rfl ?_ | refine OW_nil ?_ | refine thenE_normal ?_ | refine CW_seq ?_ | refine CW_region (by kernel_rfl) ?_ | refine OW_assignV (.int _ _) rfl ?_ | refine OW_assignV (.slice _ _ _) rfl ?_ | refine OW_assignV (.bool _) rfl ?_ | refine OW_assignV (.pointer _) rfl ?_ | refine OW_assignV (.string _) rfl ?_ | refine OW_assignV (.agg _) rfl ?_ | refine OW_assignV (.tuple _) rfl ?_ | refine OW_addI rfl rfl (by omega) ?_ | refine OW_subI rfl rfl (by omega) ?_ | refine OW_mulI rfl rfl (by omega) ?_ | refine OW_lss rfl rfl ?_ | refine OW_extract rfl rfl ?_ | refine OW_gtr rfl rfl ?_ | refine OW_leq rfl rfl ?_ | refine OW_geq rfl rfl ?_ | refine OW_eql rfl rfl ?_ | refine OW_neq rfl rfl ?_ | refine OW_not rfl ?_ | refine OW_pickT rfl _ rfl ?_ | refine OW_pickF rfl (.bool _) rfl ?_ | refine OW_pickB rfl rfl rfl ?_ | refine OW_move ?_ | refine OW_assign ?_ | refine OW_pass rfl ?_ | refine OW_take rfl ?_ | refine OW_lenS (by first | with_reducible exact und_bytes | with_reducible exact und_bytess) rfl ?_ | refine OW_convInt (by first | with_reducible exact und_u8 | with_reducible exact und_u64 | with_reducible exact und_int | with_reducible exact und_u32) (by first | with_reducible exact und_u8 | with_reducible exact und_u64 | with_reducible exact und_int | with_reducible exact und_u32) rfl ?_ | refine OW_add rfl rfl ?_ | refine OW_sub rfl rfl ?_ | refine OW_mul rfl rfl ?_ | refine OW_min2 rfl rfl ?_ | refine OW_max2 rfl rfl ?_ | refine OW_neg rfl ?_ | refine CW_block ?_ | refine CW_condT rfl ?_ | refine CW_condF rfl ?_ | refine CW_exit ?_ | refine CW_ret ?_ | refine CW_skip ?_ | refine LW_seq ?_ | refine LW_regC ?_ | refine LW_condC ?_ | refine LW_regF ?_ | refine LW_condF ?_ | refine FW_seq ?_ | refine FW_region (by kernel_rfl) ?_ | refine FW_block ?_ | refine FW_condT rfl ?_ | refine FW_condF rfl ?_ | refine FW_exit ?_ | refine FW_ret ?_ | refine FW_skip ?_ | refine LW_ret ?_ | refine LW_skip ?_ | refine thenE_exit ?_ | refine thenE_ret ?_ | refine inBlockE_normal ?_ | refine inBlockE_same ?_ | refine inBlockE_ret ?_ | refine inBlockE_ne (by rfl) ?_ | refine OW_eqlB (by with_reducible exact und_bool) rfl rfl ?_ | refine OW_neqB (by with_reducible exact und_bool) rfl rfl ?_ | refine OW_idxS (by with_reducible exact und_bytes) one_u8 rfl rfl _ rfl (by omega) ?_ | refine OW_idxS (by with_reducible exact und_bytess) one_bytes rfl rfl _ rfl (by omega) ?_ | refine OW_load1 (by first | with_reducible exact one_u8 | with_reducible exact one_bytes) rfl _ (by assumption) ?_ | refine OW_idxAI (by first | with_reducible exact und_nums | with_reducible exact und_w64) one_u32 rfl rfl (by omega) (by omega) ?_ | (refine OW_isLoad ?_; refine OW_loadBk one_u32 rfl (by assumption) _ (by first | assumption | rfl) ?_) | refine OW_sliceA und_nums one_u32 rfl ⟨_, rfl⟩ rfl 1 8 rfl rfl (by decide) (by decide) (by decide) ?_ | refine OW_sliceA und_nums one_u32 rfl rfl ⟨_, rfl⟩ 0 7 rfl rfl (by decide) (by decide) (by decide) ?_ | (refine OW_isLoad ?_; refine OW_loadBk (by first | with_reducible exact one_u8 | with_reducible exact one_bytes | with_reducible exact one_bool | with_reducible exact one_int | with_reducible exact one_errno | with_reducible exact one_u32 | with_reducible exact one_u64 | with_reducible exact one_string) rfl (by apply_assumption; assumption) _ (by first | assumption | rfl) ?_) | refine OW_load1 (by first | with_reducible exact one_u8 | with_reducible exact one_bytes | with_reducible exact one_bool | with_reducible exact one_int | with_reducible exact one_errno | with_reducible exact one_u32 | with_reducible exact one_u64 | with_reducible exact one_string) rfl _ (by apply_assumption; assumption) ?_)
         refine OW_nil ?_
         exact stay_mk _ _ _ _)
    | refine OY_a (actY_of rfl ?_)
    | refine OY_d (actY_of rfl ?_)
    | refine OY_a (actY_pass rfl rfl ?_)
    | refine OY_d (actY_pass rfl rfl ?_)
    | refine OY_a (actY_take rfl rfl ?_)
    | refine OY_d (actY_take rfl rfl ?_))
  exact hEnd.out) (k : B) : A := h ⟨k⟩
section
variable {P : Program} {ops : Array Oper} {Q : Exit → (Nat → Value) → World → Prop} {rest : List Oper} {e : Nat → Value} {w : World} {d : Tmp} {ty : TypeId} {pos : String} {aft : Array Edge}
theorem OW_idxAI {x y : Operand} {t el : TypeId} {g n : Nat} {k : IntKind} {j : Int} (ht : P.underlying t = some (.array n el)) (hel : OneT P el) (hx : ev e x = .pointer (some ⟨g, 0, none⟩)) (hy : ev e y = .int k j) (hj : 0 ≤ j) (hn : j < n)
    (h : OW P ops Q rest (upd e d (.pointer (some ⟨g, j.toNat, none⟩))) w) : OW P ops Q (⟨some d, .indexAddr t x y, ty, pos, aft, none⟩ :: rest) e w :=
  OW_idxAB ht hel hx hy j.toNat (by omega) (by omega) h
end
/-- The schedule as far as it goes. -/
def wL (b : List UInt8) (k : Nat) : List UInt32 := sch b k ++ List.replicate (64 - k) 0
theorem wL_length (b : List UInt8) {k : Nat} (h : k ≤ 64) : (wL b k).length = 64 := by simp [wL, sch_length]; omega
theorem wL_64 (b : List UInt8) : wL b 64 = sch b 64 := by simp [wL]
theorem wL_get {b : List UInt8} {k j : Nat} (hj : j < k) (hk : k ≤ 64) : ((wL b k).map uv).toArray[j]? = some (uv ((sch b k).getD j 0)) := by
  have hl := sch_length b k
  simp only [wL, List.getElem?_toArray, List.getElem?_map, List.getElem?_append_left (show j < (sch b k).length by omega)]
  rw [List.getD_eq_getElem?_getD, List.getElem?_eq_getElem (by omega)]
  rfl
theorem wL_set {b : List UInt8} {k : Nat} (hk : k < 64) : ((wL b k).map uv).toArray.setIfInBounds k (uv (nxt b (sch b k) k)) = ((wL b (k + 1)).map uv).toArray := by
  have hl := sch_length b k
  rw [List.setIfInBounds_toArray]
  congr 1
  have : List.replicate (64 - k) (0 : UInt32) = 0 :: List.replicate (64 - (k + 1)) 0 := by rw [← List.replicate_succ]; congr 1; omega
  simp only [wL, this, sch, List.map_append, List.map_cons, List.map_nil]
  rw [List.set_append_right _ _ (by simp [hl])]
  simp [hl]
theorem ldV_uv (b : List UInt8) (k : Nat) : (.int .u32 ((ldV b (4 * (k : Int)) 4 : Nat) : Int) : Value) = uv (UInt32.ofNat (ldV b ((4 * k : Nat) : Int) 4)) := by
  have h : ldV b ((4 * k : Nat) : Int) 4 < 2 ^ 32 := by have := ldV_lt b ((4 * k : Nat) : Int) 4; simpa using this
  unfold uv
  rw [UInt32.toNat_ofNat', Nat.mod_eq_of_lt h, show (4 * (k : Int)) = ((4 * k : Nat) : Int) by simp]
theorem sum_get {s x : N8} {k : Nat} (hk : k < 8) : (s.add x).l.getD k 0 = s.l.getD k 0 + x.l.getD k 0 := by
  match k, hk with
  | 0, _ => rfl
  | 1, _ => rfl
  | 2, _ => rfl
  | 3, _ => rfl
  | 4, _ => rfl
  | 5, _ => rfl
  | 6, _ => rfl
  | 7, _ => rfl
theorem cells_get {s : N8} {k : Nat} (hk : k < 8) : s.cells.toArray[k]? = some (uv (s.l.getD k 0)) := by
  match k, hk with
  | 0, _ => rfl
  | 1, _ => rfl
  | 2, _ => rfl
  | 3, _ => rfl
  | 4, _ => rfl
  | 5, _ => rfl
  | 6, _ => rfl
  | 7, _ => rfl
/-- The sum as far as it goes. -/
def sL (s x : N8) (k : Nat) : List UInt32 := (s.add x).l.take k ++ s.l.drop k
theorem sL_get {s x : N8} {k : Nat} (hk : k < 8) : ((sL s x k).map uv).toArray[k]? = some (uv (s.l.getD k 0)) := by
  match k, hk with
  | 0, _ => rfl
  | 1, _ => rfl
  | 2, _ => rfl
  | 3, _ => rfl
  | 4, _ => rfl
  | 5, _ => rfl
  | 6, _ => rfl
  | 7, _ => rfl
theorem sL_set {s x : N8} {k : Nat} (hk : k < 8) : ((sL s x k).map uv).toArray.setIfInBounds k (uv (s.l.getD k 0 + x.l.getD k 0)) = ((sL s x (k + 1)).map uv).toArray := by
  match k, hk with
  | 0, _ => rfl
  | 1, _ => rfl
  | 2, _ => rfl
  | 3, _ => rfl
  | 4, _ => rfl
  | 5, _ => rfl
  | 6, _ => rfl
  | 7, _ => rfl
theorem kL_get {k : Nat} (hk : k < 64) : (kL.map uv).toArray[k]? = some (uv (kL.getD k 0)) := by
  have hl : k < kL.length := hk
  simp only [List.getElem?_toArray, List.getElem?_map]
  rw [List.getD_eq_getElem?_getD, List.getElem?_eq_getElem hl]
  rfl
set_option maxHeartbeats 8000000 in
theorem block_any (w : World) (s : N8) (A : Option Addr) (c : Nat) (b : List UInt8) (ha : Bs w A b) (hc : b.length ≤ c) (hl : b.length = 64) :
    Calls Try.prog 64 #[.agg s.cells.toArray, .slice A b.length c] w (RetV w (.agg (blk s b).cells.toArray)) := by
  refine calls_of_CW Try.func64 rfl (by simp [Try.ntmps64]) ?_
  rw [Try.ntmps64]
  refine go_Sha2 (k := ?_)
  refine OW_box _ rfl ?_
  intro w1 g2 hb2 hg2 hl2 hw1
  have hb2 : Blk w1 g2 94 s.cells.toArray := hb2
  refine go_Sha2 (k := ?_)
  refine OW_allocA agg_nums ?_
  intro w2 g4 hb4 hg4 hl4 hw2
  replace hb2 := hb2.ext hw2
  refine go_Sha2 (k := ?_)
  refine OW_allocA agg_w64 ?_
  intro w3 g5 hb5 hg5 hl5 hw3
  replace hb2 := hb2.ext hw3
  replace hb4 := hb4.ext hw3
  have hx3 : Ext w w3 := (hw1.trans' hw2).trans' hw3
  have ha3 := ha.ext hx3
  have n24 : g2 ≠ g4 := by omega
  have n25 : g2 ≠ g5 := by have := hw2.size; omega
  have n45 : g4 ≠ g5 := by omega
  have z2 := hw1.size
  have z3 := hw2.size
  clear hw1 hw2 hw3
  refine go_Sha2 (k := ?_)
  refine CW_meetB (fun e' w' => e' 1 = .slice A b.length c ∧ e' 2 = .pointer (some ⟨g2, 0, none⟩) ∧ e' 4 = .pointer (some ⟨g4, 0, none⟩) ∧ e' 5 = .pointer (some ⟨g5, 0, none⟩) ∧ Blk w' g2 94 s.cells.toArray ∧ Blk w' g4 94 ((List.replicate 8 (0 : UInt32)).map uv).toArray ∧ Blk w' g5 129 ((sch b 64).map uv).toArray ∧ Ext w w') ?_ ?_
  · refine CW_loop (fun e' w' => ∃ k : Nat, k ≤ 64 ∧ e' 15 = .int .i64 k ∧ e' 1 = .slice A b.length c ∧ e' 2 = .pointer (some ⟨g2, 0, none⟩) ∧ e' 4 = .pointer (some ⟨g4, 0, none⟩) ∧ e' 5 = .pointer (some ⟨g5, 0, none⟩) ∧ Blk w' g2 94 s.cells.toArray ∧ Blk w' g4 94 ((List.replicate 8 (0 : UInt32)).map uv).toArray ∧ Blk w' g5 129 ((wL b k).map uv).toArray ∧ Ext w w') (fun e' _ => 64 - (intOf (e' 15)).toNat) ?_ ?_
    · exact ⟨0, by omega, rfl, rfl, rfl, rfl, rfl, hb2, hb4, hb5, hx3⟩
    rintro e' w' ⟨k, hk, q15, q1, q2, q4, q5, r2, r4, r5, hx⟩
    rw [upd_self q15, upd_self q1, upd_self q2, upd_self q4, upd_self q5]
    clear q15 q1 q2 q4 q5
    have haw := ha.ext hx
    refine go_Sha2 (k := ?_)
    refine CW_cond _ rfl (fun hh => ?_) (fun hh => ?_)
    · have hlt : k < 64 := by simp at hh; omega
      clear hh
      refine go_Sha2 (k := ?_)
      refine CW_meetB (fun e'' w'' => e'' 15 = .int .i64 k ∧ e'' 1 = .slice A b.length c ∧ e'' 2 = .pointer (some ⟨g2, 0, none⟩) ∧ e'' 4 = .pointer (some ⟨g4, 0, none⟩) ∧ e'' 5 = .pointer (some ⟨g5, 0, none⟩) ∧ Blk w'' g2 94 s.cells.toArray ∧ Blk w'' g4 94 ((List.replicate 8 (0 : UInt32)).map uv).toArray ∧ Blk w'' g5 129 ((wL b (k + 1)).map uv).toArray ∧ Ext w w'') ?_ ?_
      · refine go_Sha2 (k := ?_)
        refine CW_cond _ rfl (fun h16 => ?_) (fun h16 => ?_)
        · have h16 : k < 16 := by simp at h16; omega
          refine go_Sha2 (k := ?_)
          refine OW_callV Try.func96 (by kernel_rfl) rfl (load32_any w' A b c (4 * (k : Int)) haw hc (by omega) (by omega)) rfl ?_
          intro w4 hw4
          rw [ldV_uv]
          have hn : UInt32.ofNat (ldV b ((4 * k : Nat) : Int) 4) = nxt b (sch b k) k := by unfold nxt; rw [if_pos h16]
          rw [hn]
          refine go_Sha2 (k := ?_)
          refine OW_storeB one_u32 rfl (uv (nxt b (sch b k) k)) rfl rfl (r5.ext hw4) (by simp [wL_length b hk]; exact hlt) ?_
          intro w5 r5' hgr
          rw [wL_set hlt] at r5'
          refine go_Sha2 (k := ?_)
          exact ⟨rfl, rfl, rfl, rfl, rfl, rfl, (r2.ext hw4).only hgr n25, (r4.ext hw4).only hgr n45, r5', below_only (hx.trans' hw4) hgr (by omega) (by have := (hx.trans' hw4).size; omega)⟩
        · have h16 : 16 ≤ k := by simp at h16; omega
          refine go_Sha2 (k := ?_)
          obtain ⟨C, hC⟩ : ∃ C : World → Prop, C = fun v => Blk v g5 129 ((wL b k).map uv).toArray ∧ Ext w' v := ⟨_, rfl⟩
          have y5 : ∀ v, C v → Blk v g5 129 ((wL b k).map uv).toArray := fun v h => by rw [hC] at h; exact h.1
          have yC : ∀ u v, C u → Ext u v → C v := fun u v h hh => by rw [hC] at h ⊢; exact ⟨h.1.ext hh, h.2.trans' hh⟩
          have d2 : ((wL b k).map uv).toArray[((k : Int) - 2).toNat]? = some (uv ((sch b k).getD (k - 2) 0)) := by rw [show ((k : Int) - 2).toNat = k - 2 by omega]; exact wL_get (by omega) hk
          have d7 : ((wL b k).map uv).toArray[((k : Int) - 7).toNat]? = some (uv ((sch b k).getD (k - 7) 0)) := by rw [show ((k : Int) - 7).toNat = k - 7 by omega]; exact wL_get (by omega) hk
          have d15 : ((wL b k).map uv).toArray[((k : Int) - 15).toNat]? = some (uv ((sch b k).getD (k - 15) 0)) := by rw [show ((k : Int) - 15).toNat = k - 15 by omega]; exact wL_get (by omega) hk
          have d16 : ((wL b k).map uv).toArray[((k : Int) - 16).toNat]? = some (uv ((sch b k).getD (k - 16) 0)) := by rw [show ((k : Int) - 16).toNat = k - 16 by omega]; exact wL_get (by omega) hk
          refine CW_tree2 [4, 9, 14, 20] (.p 0 (.p 1 (.p 2 (.p 3 (.q 4 (.p 6 (.p 7 (.p 8 (.q 9 (.p 11 (.p 12 (.p 13 (.q 14 (.p 17 (.p 18 (.p 19 (.q 20 (.a 5 (.p 10 (.a 15 (.p 16 (.p 21 (.p 22 (.d 23 .done)))))))))))))))))))))))) (C) (by kernel_rfl) (by kernel_rfl) (by kernel_rfl) ?_ ?_
          · exact fun v hv => by rw [hC]; exact ⟨r5.ext hv, hv⟩
          intro w4 hx4 hC4
          refine oy_Sha2 (k := ?_)
          refine OW_callV Try.func97 (by kernel_rfl) rfl (small_any w4 _ 17 19 10 (by decide) (by decide) (by decide)) rfl ?_
          intro w5 hw5
          have hC5 := yC _ _ hC4 hw5
          refine OW_nil (goY_mk hC5 ?_)
          refine oy_Sha2 (k := ?_)
          refine OW_callV Try.func97 (by kernel_rfl) rfl (small_any w5 _ 7 18 3 (by decide) (by decide) (by decide)) rfl ?_
          intro w6 hw6
          have hC6 := yC _ _ hC5 hw6
          refine OW_nil (goY_mk hC6 ?_)
          refine oy_Sha2 (k := ?_)
          have hn : nxt b (sch b k) k = smallU ((sch b k).getD (k - 2) 0) 17 19 10 + (sch b k).getD (k - 7) 0 + smallU ((sch b k).getD (k - 15) 0) 7 18 3 + (sch b k).getD (k - 16) 0 := by unfold nxt; rw [if_neg (by omega)]
          have hx6 : Ext w' w6 := by rw [hC] at hC6; exact hC6.2
          refine OW_storeB one_u32 rfl (uv (nxt b (sch b k) k)) (by rw [hn]; rfl) rfl (y5 _ hC6) (by simp [wL_length b hk]; omega) ?_
          intro w7 r5' hgr
          rw [show ((k : Nat) : Int).toNat = k by omega, wL_set hlt] at r5'
          refine OW_nil (goY_done ?_)
          refine go_Sha2 (k := ?_)
          exact ⟨rfl, rfl, rfl, rfl, rfl, rfl, (r2.ext hx6).only hgr n25, (r4.ext hx6).only hgr n45, r5', below_only (hx.trans' hx6) hgr (by omega) (by have := (hx.trans' hx6).size; omega)⟩
      · rintro e'' w'' ⟨q15, q1, q2, q4, q5, r2, r4, r5, hx⟩
        rw [upd_self q15, upd_self q1, upd_self q2, upd_self q4, upd_self q5]
        refine go_Sha2 (k := ?_)
        refine ⟨⟨k + 1, by omega, rfl, rfl, rfl, rfl, rfl, r2, r4, r5, hx⟩, ?_⟩
        show 64 - ((k : Int) + 1).toNat < 64 - (k : Int).toNat
        omega
    · have hlt : k = 64 := by simp at hh; omega
      subst hlt
      refine go_Sha2 (k := ?_)
      rw [wL_64] at r5
      exact ⟨rfl, rfl, rfl, rfl, rfl, r2, r4, r5, hx⟩
  rintro e' w' ⟨q1, q2, q4, q5, r2, r4, r5, hx⟩
  rw [upd_self q1, upd_self q2, upd_self q4, upd_self q5]
  clear q1 q2 q4 q5 hb2 hb4 hb5 ha3 hx3 hl2 hl4 hl5
  have sx := hx.size
  refine go_Sha2 (k := ?_)
  refine OW_loadAB agg_nums rfl s.cells r2 rfl ?_
  refine go_Sha2 (k := ?_)
  have l2 := r2.lt
  have l4 := r4.lt
  have l5 := r5.lt
  refine OW_allocA agg_nums ?_
  intro w1 g7 hb7 hg7 hl7 hw1
  have n27 : g2 ≠ g7 := by omega
  have n47 : g4 ≠ g7 := by omega
  have n57 : g5 ≠ g7 := by omega
  have n7 : w.heap.size ≤ g7 := by omega
  replace r2 := r2.ext hw1
  replace r4 := r4.ext hw1
  replace r5 := r5.ext hw1
  replace hx := hx.trans' hw1
  clear l2 l4 l5 sx hg7 hl7 hw1
  refine go_Sha2 (k := ?_)
  refine OW_storeA agg_nums rfl s.cells rfl rfl hb7 rfl (uv_one _) ?_
  intro w2 r7 hgr
  have sx1 := hx.size
  replace r2 := r2.only hgr n27
  replace r4 := r4.only hgr n47
  replace r5 := r5.only hgr n57
  replace hx : Ext w w2 := below_only hx hgr n7 sx1
  clear hgr hb7
  refine go_Sha2 (k := ?_)
  refine OW_callV Try.func98 (by kernel_rfl) rfl (constants_any w2) rfl ?_
  intro w3 hw3
  replace r2 := r2.ext hw3
  replace r4 := r4.ext hw3
  replace r5 := r5.ext hw3
  replace r7 := r7.ext hw3
  replace hx := hx.trans' hw3
  clear hw3
  refine go_Sha2 (k := ?_)
  refine CW_meetB (fun e' w' => e' 2 = .pointer (some ⟨g2, 0, none⟩) ∧ e' 4 = .pointer (some ⟨g4, 0, none⟩) ∧ e' 7 = .pointer (some ⟨g7, 0, none⟩) ∧ Blk w' g2 94 s.cells.toArray ∧ Blk w' g4 94 ((List.replicate 8 (0 : UInt32)).map uv).toArray ∧ Blk w' g7 94 (rnds b s 64).cells.toArray ∧ Ext w w') ?_ ?_
  · refine CW_loop (fun e' w' => ∃ k : Nat, k ≤ 64 ∧ e' 55 = .int .i64 k ∧ e' 54 = .agg (kL.map uv).toArray ∧ e' 2 = .pointer (some ⟨g2, 0, none⟩) ∧ e' 4 = .pointer (some ⟨g4, 0, none⟩) ∧ e' 5 = .pointer (some ⟨g5, 0, none⟩) ∧ e' 7 = .pointer (some ⟨g7, 0, none⟩) ∧ Blk w' g2 94 s.cells.toArray ∧ Blk w' g4 94 ((List.replicate 8 (0 : UInt32)).map uv).toArray ∧ Blk w' g5 129 ((sch b 64).map uv).toArray ∧ Blk w' g7 94 (rnds b s k).cells.toArray ∧ Ext w w') (fun e' _ => 64 - (intOf (e' 55)).toNat) ?_ ?_
    · exact ⟨0, by omega, rfl, rfl, rfl, rfl, rfl, rfl, r2, r4, r5, r7, hx⟩
    clear r2 r4 r5 r7 hx
    rintro e' w' ⟨k, hk, q55, q54, q2, q4, q5, q7, r2, r4, r5, r7, hx⟩
    rw [upd_self q55, upd_self q54, upd_self q2, upd_self q4, upd_self q5, upd_self q7]
    clear q55 q54 q2 q4 q5 q7
    refine go_Sha2 (k := ?_)
    refine CW_cond _ rfl (fun hh => ?_) (fun hh => ?_)
    · have hlt : k < 64 := by simp at hh; omega
      clear hh
      refine go_Sha2 (k := ?_)
      refine OW_indexA und_w64 one_u32 rfl rfl k rfl hlt (uv (kL.getD k 0)) (kL_get hlt) ?_
      refine go_Sha2 (k := ?_)
      have hstep : rnds b s (k + 1) = rnd (rnds b s k) (kL.getD k 0) ((sch b 64).getD k 0) := rfl
      obtain ⟨X, hX⟩ : ∃ X, rnds b s k = X := ⟨_, rfl⟩
      rw [hX] at r7 hstep
      have dW : ((sch b 64).map uv).toArray[k]? = some (uv ((sch b 64).getD k 0)) := by have := wL_get (b := b) (k := 64) (j := k) hlt (Nat.le_refl _); rwa [wL_64] at this
      obtain ⟨W, hW⟩ : ∃ W, sch b 64 = W := ⟨_, rfl⟩
      rw [hW] at r5 hstep dW
      obtain ⟨K, hK⟩ : ∃ K, kL.getD k 0 = K := ⟨_, rfl⟩
      rw [hK] at hstep ⊢
      obtain ⟨cx, hcx⟩ : ∃ cx, X.cells.toArray = cx := ⟨_, rfl⟩
      obtain ⟨cw, hcw⟩ : ∃ cw, (W.map uv).toArray = cw := ⟨_, rfl⟩
      have x0 : cx[0]? = some (uv X.a) := by rw [← hcx]; rfl
      have x1 : cx[1]? = some (uv X.b) := by rw [← hcx]; rfl
      have x2 : cx[2]? = some (uv X.c) := by rw [← hcx]; rfl
      have x4 : cx[4]? = some (uv X.e) := by rw [← hcx]; rfl
      have x5 : cx[5]? = some (uv X.f) := by rw [← hcx]; rfl
      have x6 : cx[6]? = some (uv X.g) := by rw [← hcx]; rfl
      have x7 : cx[7]? = some (uv X.h) := by rw [← hcx]; rfl
      rw [hcx] at r7
      rw [hcw] at r5 dW
      obtain ⟨C, hC⟩ : ∃ C : World → Prop, C = fun v => Blk v g2 94 s.cells.toArray ∧ Blk v g4 94 ((List.replicate 8 (0 : UInt32)).map uv).toArray ∧ Blk v g5 129 cw ∧ Blk v g7 94 cx ∧ Ext w v := ⟨_, rfl⟩
      have y5 : ∀ v, C v → Blk v g5 129 cw := fun v h => by rw [hC] at h; exact h.2.2.1
      have y7 : ∀ v, C v → Blk v g7 94 cx := fun v h => by rw [hC] at h; exact h.2.2.2.1
      have yC : ∀ u v, C u → Ext u v → C v := fun u v h hh => by rw [hC] at h ⊢; exact ⟨h.1.ext hh, h.2.1.ext hh, h.2.2.1.ext hh, h.2.2.2.1.ext hh, h.2.2.2.2.trans' hh⟩
      have hC0 : C w' := by rw [hC]; exact ⟨r2, r4, r5, r7, hx⟩
      clear r2 r4 r5 r7 hx
      have hid : Held (rnds b s (k + 1) = rnd X K (W.getD k 0) ∧ X.cells.toArray = cx ∧ ((sch b 64).map uv).toArray = cw) := ⟨hstep, hcx, by rw [hW]; exact hcw⟩
      clear hstep hK hW hX hcx hcw
      refine CW_tree2 [1, 3] (.p 0 (.q 1 (.p 2 (.q 3 (.p 4 (.p 5 .done)))))) (C) (by kernel_rfl) (by kernel_rfl) (by kernel_rfl) ?_ ?_
      · exact fun v hv => yC _ _ hC0 hv
      intro w4 hx4 hC4
      refine oy_Sha2 (k := ?_)
      refine go_Sha2 (k := ?_)
      refine CW_tree2 [1, 7, 12, 20] (.p 0 (.q 1 (.p 2 (.p 5 (.p 6 (.q 7 (.p 8 (.p 9 (.p 10 (.p 11 (.q 12 (.p 13 (.p 14 (.p 16 (.p 18 (.p 19 (.q 20 (.a 3 (.p 4 (.p 15 (.p 17 (.p 21 (.p 22 .done))))))))))))))))))))))) (C) (by kernel_rfl) (by kernel_rfl) (by kernel_rfl) ?_ ?_
      · exact fun v hv => yC _ _ hC4 hv
      intro w5 hx5 hC5
      refine oy_Sha2 (k := ?_)
      refine OW_callV Try.func99 (by kernel_rfl) rfl (turned_any w5 _ 6 11 25 (by decide) (by decide) (by decide)) rfl ?_
      intro w6 hw6
      have hC6 := yC _ _ hC5 hw6
      refine OW_nil (goY_mk hC6 ?_)
      refine oy_Sha2 (k := ?_)
      refine go_Sha2 (k := ?_)
      refine CW_tree2 [4, 8, 12, 14] (.p 0 (.p 2 (.p 3 (.q 4 (.p 5 (.p 6 (.p 7 (.q 8 (.p 9 (.p 10 (.p 11 (.q 12 (.p 13 (.q 14 (.p 15 (.p 16 (.a 1 (.p 17 (.p 18 .done))))))))))))))))))) (C) (by kernel_rfl) (by kernel_rfl) (by kernel_rfl) ?_ ?_
      · exact fun v hv => yC _ _ hC6 hv
      intro w7 hx7 hC7
      refine oy_Sha2 (k := ?_)
      refine OW_callV Try.func99 (by kernel_rfl) rfl (turned_any w7 _ 2 13 22 (by decide) (by decide) (by decide)) rfl ?_
      intro w8 hw8
      have hC8 := yC _ _ hC7 hw8
      refine OW_nil (goY_mk hC8 ?_)
      refine oy_Sha2 (k := ?_)
      refine go_Sha2 (k := ?_)
      refine CW_tree2 [] (.p 0 (.p 1 (.d 2 .done))) (C) (by kernel_rfl) (by kernel_rfl) (by kernel_rfl) ?_ ?_
      · exact fun v hv => yC _ _ hC8 hv
      intro w9 hx9 hC9
      refine oy_Sha2 (k := ?_)
      obtain ⟨hstep, hcx, hcw⟩ := hid.out
      have r7 := y7 _ hC9
      rw [hC] at hC9
      obtain ⟨r2, r4, r5, _, hx⟩ := hC9
      have l7 := r7.lt
      have sx := hx.size
      rw [← hcx] at r7
      refine OW_copyR und_u32s one_u32 rfl rfl r7 ((X.l.take 7).map uv) (fun j u hu => r7.atL j u ?_) rfl (Nat.le_refl 8) (uv_one _) ?_
      · rw [List.map_take, List.getElem?_take] at hu
        split at hu
        · exact hu
        · cases hu
      intro w10 r7' hgr
      replace r2 := r2.only hgr n27
      replace r4 := r4.only hgr n47
      replace r5 := r5.only hgr n57
      replace hx : Ext w w10 := below_only hx hgr n7 sx
      clear hgr sx r7
      replace r7' : Blk w10 g7 94 (([X.a, X.a, X.b, X.c, X.d, X.e, X.f, X.g] : List UInt32).map uv).toArray := r7'
      refine OW_nil (goY_done ?_)
      refine go_Sha2 (k := ?_)
      refine OW_storeB one_u32 rfl (uv (one8 X K (W.getD k 0) + two8 X)) rfl rfl r7' (by show (0 : Nat) < 8; omega) ?_
      intro w11 r7 hgr
      have sx := hx.size
      replace r2 := r2.only hgr n27
      replace r4 := r4.only hgr n47
      replace r5 := r5.only hgr n57
      replace hx : Ext w w11 := below_only hx hgr n7 sx
      clear hgr sx r7'
      replace r7 : Blk w11 g7 94 (([one8 X K (W.getD k 0) + two8 X, X.a, X.b, X.c, X.d, X.e, X.f, X.g] : List UInt32).map uv).toArray := r7
      refine go_Sha2 (k := ?_)
      refine OW_storeB one_u32 rfl (uv (X.d + one8 X K (W.getD k 0))) rfl rfl r7 (by show (4 : Nat) < 8; omega) ?_
      intro w12 r7' hgr
      have sx := hx.size
      replace r2 := r2.only hgr n27
      replace r4 := r4.only hgr n47
      replace r5 := r5.only hgr n57
      replace hx : Ext w w12 := below_only hx hgr n7 sx
      clear hgr sx r7
      replace r7' : Blk w12 g7 94 (rnds b s (k + 1)).cells.toArray := by rw [hstep]; exact r7'
      rw [← hcw] at r5
      refine go_Sha2 (k := ?_)
      refine ⟨⟨k + 1, hlt, rfl, rfl, rfl, rfl, rfl, rfl, r2, r4, r5, r7', hx⟩, ?_⟩
      show 64 - ((k : Int) + 1).toNat < 64 - (k : Int).toNat
      omega
    · have hlt : k = 64 := by simp at hh; omega
      subst hlt
      refine go_Sha2 (k := ?_)
      exact ⟨rfl, rfl, rfl, rfl, r2, r4, r7, hx⟩
  clear r2 r4 r5 r7 hx
  rintro e' w' ⟨q2, q4, q7, r2, r4, r7, hx⟩
  rw [upd_self q2, upd_self q4, upd_self q7]
  clear q2 q4 q7
  obtain ⟨X, hX⟩ : ∃ X, rnds b s 64 = X := ⟨_, rfl⟩
  rw [hX] at r7
  have hid : Held (rnds b s 64 = X) := ⟨hX⟩
  clear hX
  refine go_Sha2 (k := ?_)
  refine CW_meetB (fun e' w' => e' 2 = .pointer (some ⟨g2, 0, none⟩) ∧ e' 4 = .pointer (some ⟨g4, 0, none⟩) ∧ Blk w' g2 94 (s.add X).cells.toArray ∧ Blk w' g4 94 ((List.replicate 8 (0 : UInt32)).map uv).toArray ∧ Ext w w') ?_ ?_
  · refine CW_loop (fun e' w' => ∃ k : Nat, k ≤ 8 ∧ e' 116 = .int .i64 k ∧ e' 2 = .pointer (some ⟨g2, 0, none⟩) ∧ e' 4 = .pointer (some ⟨g4, 0, none⟩) ∧ e' 7 = .pointer (some ⟨g7, 0, none⟩) ∧ Blk w' g2 94 ((sL s X k).map uv).toArray ∧ Blk w' g4 94 ((List.replicate 8 (0 : UInt32)).map uv).toArray ∧ Blk w' g7 94 X.cells.toArray ∧ Ext w w') (fun e' _ => 8 - (intOf (e' 116)).toNat) ?_ ?_
    · exact ⟨0, by omega, rfl, rfl, rfl, rfl, r2, r4, r7, hx⟩
    clear r2 r4 r7 hx
    rintro e' w' ⟨k, hk, q116, q2, q4, q7, r2, r4, r7, hx⟩
    rw [upd_self q116, upd_self q2, upd_self q4, upd_self q7]
    clear q116 q2 q4 q7
    refine go_Sha2 (k := ?_)
    refine CW_cond _ rfl (fun hh => ?_) (fun hh => ?_)
    · have hlt : k < 8 := by simp at hh; omega
      clear hh
      refine go_Sha2 (k := ?_)
      obtain ⟨C, hC⟩ : ∃ C : World → Prop, C = fun v => Blk v g2 94 ((sL s X k).map uv).toArray ∧ Blk v g4 94 ((List.replicate 8 (0 : UInt32)).map uv).toArray ∧ Blk v g7 94 X.cells.toArray ∧ Ext w v := ⟨_, rfl⟩
      have yC : ∀ v, Ext w' v → C v := fun v h => by rw [hC]; exact ⟨r2.ext h, r4.ext h, r7.ext h, hx.trans' h⟩
      obtain ⟨c2, hc2⟩ : ∃ c2, ((sL s X k).map uv).toArray = c2 := ⟨_, rfl⟩
      obtain ⟨c7, hc7⟩ : ∃ c7, X.cells.toArray = c7 := ⟨_, rfl⟩
      have y2 : ∀ v, C v → Blk v g2 94 c2 := fun v h => by rw [hC] at h; rw [← hc2]; exact h.1
      have y7 : ∀ v, C v → Blk v g7 94 c7 := fun v h => by rw [hC] at h; rw [← hc7]; exact h.2.2.1
      have d2 : c2[k]? = some (uv (s.l.getD k 0)) := by rw [← hc2]; exact sL_get hlt
      have d7 : c7[k]? = some (uv (X.l.getD k 0)) := by rw [← hc7]; exact cells_get hlt
      clear r2 r4 r7 hx
      refine CW_tree2 [2, 5] (.p 0 (.p 1 (.q 2 (.p 3 (.p 4 (.q 5 (.p 6 (.p 7 (.d 8 .done))))))))) (C) (by kernel_rfl) (by kernel_rfl) (by kernel_rfl) ?_ ?_
      · exact yC
      intro w4 hx4 hC4
      refine oy_Sha2 (k := ?_)
      rw [hC] at hC4
      obtain ⟨r2, r4, r7, hx⟩ := hC4
      have l2 := r2.lt
      have l4 := r4.lt
      have l7 := r7.lt
      refine OW_storeB one_u32 rfl (uv (s.l.getD k 0 + X.l.getD k 0)) rfl rfl r2 (by simp [sL, N8.l]; omega) ?_
      intro w5 r2' hgr
      rw [show ((k : Nat) : Int).toNat = k by omega, sL_set hlt] at r2'
      have sx := hx.size
      replace r4 := r4.only hgr (Ne.symm n24)
      replace r7 := r7.only hgr (Ne.symm n27)
      replace hx : Ext w w5 := below_only hx hgr (by omega) sx
      refine OW_nil (goY_done ?_)
      refine go_Sha2 (k := ?_)
      refine ⟨⟨k + 1, by omega, rfl, rfl, rfl, rfl, r2', r4, r7, hx⟩, ?_⟩
      show 8 - ((k : Int) + 1).toNat < 8 - (k : Int).toNat
      omega
    · have hlt : k = 8 := by simp at hh; omega
      subst hlt
      refine go_Sha2 (k := ?_)
      exact ⟨rfl, rfl, rfl, r2, r4, hx⟩
  clear r2 r4 r7 hx
  rintro e' w' ⟨q2, q4, r2, r4, hx⟩
  rw [upd_self q2, upd_self q4]
  clear q2 q4
  have hb : s.add X = blk s b := by unfold blk; rw [hid.out]
  rw [hb] at r2
  refine go_Sha2 (k := ?_)
  refine OW_loadAB agg_nums rfl (blk s b).cells r2 rfl ?_
  refine go_Sha2 (k := ?_)
  refine OW_storeA agg_nums rfl (blk s b).cells rfl rfl r4 rfl (uv_one _) ?_
  intro w2 r4' hgr
  refine go_Sha2 (k := ?_)
  exact bodyE_retc rfl agg_nums rfl (blk s b).cells rfl r4'.range ⟨rfl, below_only hx hgr (by omega) hx.size⟩
end Go.Proofs.Ytdpcahfgdpikfaa
