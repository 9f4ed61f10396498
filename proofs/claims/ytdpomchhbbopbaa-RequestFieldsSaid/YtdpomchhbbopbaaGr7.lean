/- Several texts in one, as they stand in wip/src. -/
import Derived.Test.YtdpomchhbbopbaaGr3
import Derived.Test.YtdpomchhbbopbaaGr6
/- Walks: the Reader's Flag, Bytes, Text. -/
namespace Go.Proofs.Ytdpomchhbbopbaa
open Go Go.RowKit
set_option linter.unusedVariables false
set_option maxRecDepth 2000
theorem go_WireR3 {A B : Prop} (h : Held B → A := by
  intro hEnd
  repeat (first | refine OW_moveV (.int _ _) rfl ?_ | refine OW_moveV (.slice _ _ _) rfl ?_ | refine OW_moveV (.bool _) rfl ?_ | refine OW_moveV (.pointer _) rfl ?_ | refine OW_moveV (.string _) rfl ?_ | refine OW_moveV (.agg _) rfl ?_ | refine OW_moveV (.tuple _) rfl ?_ | refine OW_nil ?_ | refine thenE_normal ?_ | refine CW_seq ?_ | refine CW_region (by kernel_rfl) ?_ | refine OW_assignV (.int _ _) rfl ?_ | refine OW_assignV (.slice _ _ _) rfl ?_ | refine OW_assignV (.bool _) rfl ?_ | refine OW_assignV (.pointer _) rfl ?_ | refine OW_assignV (.string _) rfl ?_ | refine OW_assignV (.agg _) rfl ?_ | refine OW_assignV (.tuple _) rfl ?_ | refine OW_addI rfl rfl (by omega) ?_ | refine OW_subI rfl rfl (by omega) ?_ | refine OW_mulI rfl rfl (by omega) ?_ | refine OW_lss rfl rfl ?_ | refine OW_extract rfl rfl ?_ | refine OW_gtr rfl rfl ?_ | refine OW_leq rfl rfl ?_ | refine OW_geq rfl rfl ?_ | refine OW_eql rfl rfl ?_ | refine OW_neq rfl rfl ?_ | refine OW_not rfl ?_ | refine OW_pickT rfl _ rfl ?_ | refine OW_pickF rfl (.bool _) rfl ?_ | refine OW_pickB rfl rfl rfl ?_ | refine OW_move ?_ | refine OW_assign ?_ | refine OW_pass rfl ?_ | refine OW_take rfl ?_ | refine OW_lenS (by first | with_reducible exact und_bytes | with_reducible exact und_bytess) rfl ?_ | refine OW_convInt (by first | with_reducible exact und_u8 | with_reducible exact und_u64 | with_reducible exact und_int | with_reducible exact und_u32) (by first | with_reducible exact und_u8 | with_reducible exact und_u64 | with_reducible exact und_int | with_reducible exact und_u32) rfl ?_ | refine OW_add rfl rfl ?_ | refine OW_sub rfl rfl ?_ | refine OW_mul rfl rfl ?_ | refine OW_min2 rfl rfl ?_ | refine OW_max2 rfl rfl ?_ | refine OW_neg rfl ?_ | refine CW_block ?_ | refine CW_condT rfl ?_ | refine CW_condF rfl ?_ | refine CW_exit ?_ | refine CW_ret ?_ | refine CW_skip ?_ | refine LW_seq ?_ | refine LW_regC ?_ | refine LW_condC ?_ | refine LW_regF ?_ | refine LW_condF ?_ | refine FW_seq ?_ | refine FW_region (by kernel_rfl) ?_ | refine FW_block ?_ | refine FW_condT rfl ?_ | refine FW_condF rfl ?_ | refine FW_exit ?_ | refine FW_ret ?_ | refine FW_skip ?_ | refine LW_ret ?_ | refine LW_skip ?_ | refine thenE_exit ?_ | refine thenE_ret ?_ | refine inBlockE_normal ?_ | refine inBlockE_same ?_ | refine inBlockE_ret ?_ | refine inBlockE_ne (by rfl) ?_ | refine OW_eqlB (by with_reducible exact und_bool) rfl rfl ?_ | refine OW_neqB (by with_reducible exact und_bool) rfl rfl ?_ | refine OW_idxS (by with_reducible exact und_bytes) one_u8 rfl rfl _ rfl (by omega) ?_ | refine OW_idxS (by with_reducible exact und_bytess) one_bytes rfl rfl _ rfl (by omega) ?_ | refine OW_load1 (by first | with_reducible exact one_u8 | with_reducible exact one_bytes) rfl _ (by assumption) ?_)
  exact hEnd.out) (k : B) : A := h ⟨k⟩
set_option maxHeartbeats 8000000 in
theorem cFlag_any (w : World) (A : Option Addr) (b : UInt8) (hb : Bs w A [b]) : Calls Try.prog 80 #[.slice A 1 1] w (RetV w (.tuple #[.bool (decide ((b.toNat : Int) = 1)), .bool (decide ((b.toNat : Int) ≤ 1))])) := by
  obtain ⟨ad, hA, hc⟩ := hb 0 (bv b) rfl
  subst hA
  have hc : w.cell? (ad.add 0) = some (.int .u8 (b.toNat : Int)) := hc
  refine calls_of_CW Try.func80 rfl (by simp [Try.ntmps80]) ?_
  rw [Try.ntmps80]
  refine go_WireR3 (k := ?_)
  apply CW_any [vF _, vF (.pointer (some (ad.add 0))), vF _, vF _, vF _, vF (.pointer (some (ad.add 0))), vF _, vF _, vF _, vF _]
  case hm => kernel_rfl
  case hac => kernel_rfl
  case hd => kernel_rfl
  case hnd => kernel_rfl
  case hops =>
    refine ⟨?_, ?_⟩
    · refine Obl_of (fun e1 w1 hk => ?_)
      rw [upd_self (hk.out 0 rfl)]
      (first
       | refine OW_moveV (.int _ _) rfl ?_
       | refine OW_moveV (.slice _ _ _) rfl ?_
       | refine OW_moveV (.bool _) rfl ?_
       | refine OW_moveV (.pointer _) rfl ?_
       | refine OW_moveV (.string _) rfl ?_
       | refine OW_moveV (.agg _) rfl ?_
       | refine OW_moveV (.tuple _) rfl ?_
       | refine OW_nil ?_
       | refine thenE_normal ?_
       | refine CW_seq ?_
       | refine CW_region (by kernel_rfl) ?_
       | refine OW_assignV (.int _ _) rfl ?_
       | refine OW_assignV (.slice _ _ _) rfl ?_
       | refine OW_assignV (.bool _) rfl ?_
       | refine OW_assignV (.pointer _) rfl ?_
       | refine OW_assignV (.string _) rfl ?_
       | refine OW_assignV (.agg _) rfl ?_
       | refine OW_assignV (.tuple _) rfl ?_
       | refine OW_addI rfl rfl (by omega) ?_
       | refine OW_subI rfl rfl (by omega) ?_
       | refine OW_mulI rfl rfl (by omega) ?_
       | refine OW_lss rfl rfl ?_
       | refine OW_extract rfl rfl ?_
       | refine OW_gtr rfl rfl ?_
       | refine OW_leq rfl rfl ?_
       | refine OW_geq rfl rfl ?_
       | refine OW_eql rfl rfl ?_
       | refine OW_neq rfl rfl ?_
       | refine OW_not rfl ?_
       | refine OW_pickT rfl _ rfl ?_
       | refine OW_pickF rfl (.bool _) rfl ?_
       | refine OW_pickB rfl rfl rfl ?_
       | refine OW_move ?_
       | refine OW_assign ?_
       | refine OW_pass rfl ?_
       | refine OW_take rfl ?_
       | refine OW_lenS (by first | with_reducible exact und_bytes | with_reducible exact und_bytess) rfl ?_
       | refine OW_convInt (by first | with_reducible exact und_u8 | with_reducible exact und_u64 | with_reducible exact und_int | with_reducible exact und_u32) (by first | with_reducible exact und_u8 | with_reducible exact und_u64 | with_reducible exact und_int | with_reducible exact und_u32) rfl ?_
       | refine OW_add rfl rfl ?_
       | refine OW_sub rfl rfl ?_
       | refine OW_mul rfl rfl ?_
       | refine OW_min2 rfl rfl ?_
       | refine OW_max2 rfl rfl ?_
       | refine OW_neg rfl ?_
       | refine CW_block ?_
       | refine CW_condT rfl ?_
       | refine CW_condF rfl ?_
       | refine CW_exit ?_
       | refine CW_ret ?_
       | refine CW_skip ?_
       | refine LW_seq ?_
       | refine LW_regC ?_
       | refine LW_condC ?_
       | refine LW_regF ?_
       | refine LW_condF ?_
       | refine FW_seq ?_
       | refine FW_region (by kernel_rfl) ?_
       | refine FW_block ?_
       | refine FW_condT rfl ?_
       | refine FW_condF rfl ?_
       | refine FW_exit ?_
       | refine FW_ret ?_
       | refine FW_skip ?_
       | refine LW_ret ?_
       | refine LW_skip ?_
       | refine thenE_exit ?_
       | refine thenE_ret ?_
       | refine inBlockE_normal ?_
       | refine inBlockE_same ?_
       | refine inBlockE_ret ?_
       | refine inBlockE_ne (by rfl) ?_
       | refine OW_eqlB (by with_reducible exact und_bool) rfl rfl ?_
       | refine OW_neqB (by with_reducible exact und_bool) rfl rfl ?_
       | refine OW_idxS (by with_reducible exact und_bytes) one_u8 rfl rfl _ rfl (by omega) ?_
       | refine OW_idxS (by with_reducible exact und_bytess) one_bytes rfl rfl _ rfl (by omega) ?_
       | refine OW_load1 (by first | with_reducible exact one_u8 | with_reducible exact one_bytes) rfl _ (by assumption) ?_
       | refine OW_load1 (by with_reducible exact one_u8) rfl _ (hk.ext.cell' (by assumption)) ?_)
      refine OW_nil ?_
      exact keepsF_mk _ _ _ _
    refine ⟨?_, ?_⟩
    · refine Obl_of (fun e1 w1 hk => ?_)
      rw [upd_self (hk.pre 0 4 rfl rfl : isV _ _ _)]
      refine OW_idxL 0 und_bytes one_u8 rfl rfl (by decide) ?_
      refine OW_nil ?_
      exact keepsF_mk _ _ _ _
    refine ⟨?_, ?_⟩
    · refine Obl_of (fun e1 w1 hk => ?_)
      rw [upd_self (hk.pre 1 5 rfl rfl : isV _ _ _)]
      (first
       | refine OW_moveV (.int _ _) rfl ?_
       | refine OW_moveV (.slice _ _ _) rfl ?_
       | refine OW_moveV (.bool _) rfl ?_
       | refine OW_moveV (.pointer _) rfl ?_
       | refine OW_moveV (.string _) rfl ?_
       | refine OW_moveV (.agg _) rfl ?_
       | refine OW_moveV (.tuple _) rfl ?_
       | refine OW_nil ?_
       | refine thenE_normal ?_
       | refine CW_seq ?_
       | refine CW_region (by kernel_rfl) ?_
       | refine OW_assignV (.int _ _) rfl ?_
       | refine OW_assignV (.slice _ _ _) rfl ?_
       | refine OW_assignV (.bool _) rfl ?_
       | refine OW_assignV (.pointer _) rfl ?_
       | refine OW_assignV (.string _) rfl ?_
       | refine OW_assignV (.agg _) rfl ?_
       | refine OW_assignV (.tuple _) rfl ?_
       | refine OW_addI rfl rfl (by omega) ?_
       | refine OW_subI rfl rfl (by omega) ?_
       | refine OW_mulI rfl rfl (by omega) ?_
       | refine OW_lss rfl rfl ?_
       | refine OW_extract rfl rfl ?_
       | refine OW_gtr rfl rfl ?_
       | refine OW_leq rfl rfl ?_
       | refine OW_geq rfl rfl ?_
       | refine OW_eql rfl rfl ?_
       | refine OW_neq rfl rfl ?_
       | refine OW_not rfl ?_
       | refine OW_pickT rfl _ rfl ?_
       | refine OW_pickF rfl (.bool _) rfl ?_
       | refine OW_pickB rfl rfl rfl ?_
       | refine OW_move ?_
       | refine OW_assign ?_
       | refine OW_pass rfl ?_
       | refine OW_take rfl ?_
       | refine OW_lenS (by first | with_reducible exact und_bytes | with_reducible exact und_bytess) rfl ?_
       | refine OW_convInt (by first | with_reducible exact und_u8 | with_reducible exact und_u64 | with_reducible exact und_int | with_reducible exact und_u32) (by first | with_reducible exact und_u8 | with_reducible exact und_u64 | with_reducible exact und_int | with_reducible exact und_u32) rfl ?_
       | refine OW_add rfl rfl ?_
       | refine OW_sub rfl rfl ?_
       | refine OW_mul rfl rfl ?_
       | refine OW_min2 rfl rfl ?_
       | refine OW_max2 rfl rfl ?_
       | refine OW_neg rfl ?_
       | refine CW_block ?_
       | refine CW_condT rfl ?_
       | refine CW_condF rfl ?_
       | refine CW_exit ?_
       | refine CW_ret ?_
       | refine CW_skip ?_
       | refine LW_seq ?_
       | refine LW_regC ?_
       | refine LW_condC ?_
       | refine LW_regF ?_
       | refine LW_condF ?_
       | refine FW_seq ?_
       | refine FW_region (by kernel_rfl) ?_
       | refine FW_block ?_
       | refine FW_condT rfl ?_
       | refine FW_condF rfl ?_
       | refine FW_exit ?_
       | refine FW_ret ?_
       | refine FW_skip ?_
       | refine LW_ret ?_
       | refine LW_skip ?_
       | refine thenE_exit ?_
       | refine thenE_ret ?_
       | refine inBlockE_normal ?_
       | refine inBlockE_same ?_
       | refine inBlockE_ret ?_
       | refine inBlockE_ne (by rfl) ?_
       | refine OW_eqlB (by with_reducible exact und_bool) rfl rfl ?_
       | refine OW_neqB (by with_reducible exact und_bool) rfl rfl ?_
       | refine OW_idxS (by with_reducible exact und_bytes) one_u8 rfl rfl _ rfl (by omega) ?_
       | refine OW_idxS (by with_reducible exact und_bytess) one_bytes rfl rfl _ rfl (by omega) ?_
       | refine OW_load1 (by first | with_reducible exact one_u8 | with_reducible exact one_bytes) rfl _ (by assumption) ?_
       | refine OW_load1 (by with_reducible exact one_u8) rfl _ (hk.ext.cell' (by assumption)) ?_)
      refine OW_nil ?_
      exact keepsF_mk _ _ _ _
    refine ⟨?_, ?_⟩
    · refine Obl_of (fun e1 w1 hk => ?_)
      rw [upd_self (hk.pre 2 6 rfl rfl : isV _ _ _)]
      (first
       | refine OW_moveV (.int _ _) rfl ?_
       | refine OW_moveV (.slice _ _ _) rfl ?_
       | refine OW_moveV (.bool _) rfl ?_
       | refine OW_moveV (.pointer _) rfl ?_
       | refine OW_moveV (.string _) rfl ?_
       | refine OW_moveV (.agg _) rfl ?_
       | refine OW_moveV (.tuple _) rfl ?_
       | refine OW_nil ?_
       | refine thenE_normal ?_
       | refine CW_seq ?_
       | refine CW_region (by kernel_rfl) ?_
       | refine OW_assignV (.int _ _) rfl ?_
       | refine OW_assignV (.slice _ _ _) rfl ?_
       | refine OW_assignV (.bool _) rfl ?_
       | refine OW_assignV (.pointer _) rfl ?_
       | refine OW_assignV (.string _) rfl ?_
       | refine OW_assignV (.agg _) rfl ?_
       | refine OW_assignV (.tuple _) rfl ?_
       | refine OW_addI rfl rfl (by omega) ?_
       | refine OW_subI rfl rfl (by omega) ?_
       | refine OW_mulI rfl rfl (by omega) ?_
       | refine OW_lss rfl rfl ?_
       | refine OW_extract rfl rfl ?_
       | refine OW_gtr rfl rfl ?_
       | refine OW_leq rfl rfl ?_
       | refine OW_geq rfl rfl ?_
       | refine OW_eql rfl rfl ?_
       | refine OW_neq rfl rfl ?_
       | refine OW_not rfl ?_
       | refine OW_pickT rfl _ rfl ?_
       | refine OW_pickF rfl (.bool _) rfl ?_
       | refine OW_pickB rfl rfl rfl ?_
       | refine OW_move ?_
       | refine OW_assign ?_
       | refine OW_pass rfl ?_
       | refine OW_take rfl ?_
       | refine OW_lenS (by first | with_reducible exact und_bytes | with_reducible exact und_bytess) rfl ?_
       | refine OW_convInt (by first | with_reducible exact und_u8 | with_reducible exact und_u64 | with_reducible exact und_int | with_reducible exact und_u32) (by first | with_reducible exact und_u8 | with_reducible exact und_u64 | with_reducible exact und_int | with_reducible exact und_u32) rfl ?_
       | refine OW_add rfl rfl ?_
       | refine OW_sub rfl rfl ?_
       | refine OW_mul rfl rfl ?_
       | refine OW_min2 rfl rfl ?_
       | refine OW_max2 rfl rfl ?_
       | refine OW_neg rfl ?_
       | refine CW_block ?_
       | refine CW_condT rfl ?_
       | refine CW_condF rfl ?_
       | refine CW_exit ?_
       | refine CW_ret ?_
       | refine CW_skip ?_
       | refine LW_seq ?_
       | refine LW_regC ?_
       | refine LW_condC ?_
       | refine LW_regF ?_
       | refine LW_condF ?_
       | refine FW_seq ?_
       | refine FW_region (by kernel_rfl) ?_
       | refine FW_block ?_
       | refine FW_condT rfl ?_
       | refine FW_condF rfl ?_
       | refine FW_exit ?_
       | refine FW_ret ?_
       | refine FW_skip ?_
       | refine LW_ret ?_
       | refine LW_skip ?_
       | refine thenE_exit ?_
       | refine thenE_ret ?_
       | refine inBlockE_normal ?_
       | refine inBlockE_same ?_
       | refine inBlockE_ret ?_
       | refine inBlockE_ne (by rfl) ?_
       | refine OW_eqlB (by with_reducible exact und_bool) rfl rfl ?_
       | refine OW_neqB (by with_reducible exact und_bool) rfl rfl ?_
       | refine OW_idxS (by with_reducible exact und_bytes) one_u8 rfl rfl _ rfl (by omega) ?_
       | refine OW_idxS (by with_reducible exact und_bytess) one_bytes rfl rfl _ rfl (by omega) ?_
       | refine OW_load1 (by first | with_reducible exact one_u8 | with_reducible exact one_bytes) rfl _ (by assumption) ?_
       | refine OW_load1 (by with_reducible exact one_u8) rfl _ (hk.ext.cell' (by assumption)) ?_)
      refine OW_nil ?_
      exact keepsF_mk _ _ _ _
    refine ⟨?_, ?_⟩
    · refine Obl_of (fun e1 w1 hk => ?_)
      rw [upd_self (hk.out 0 rfl)]
      (first
       | refine OW_moveV (.int _ _) rfl ?_
       | refine OW_moveV (.slice _ _ _) rfl ?_
       | refine OW_moveV (.bool _) rfl ?_
       | refine OW_moveV (.pointer _) rfl ?_
       | refine OW_moveV (.string _) rfl ?_
       | refine OW_moveV (.agg _) rfl ?_
       | refine OW_moveV (.tuple _) rfl ?_
       | refine OW_nil ?_
       | refine thenE_normal ?_
       | refine CW_seq ?_
       | refine CW_region (by kernel_rfl) ?_
       | refine OW_assignV (.int _ _) rfl ?_
       | refine OW_assignV (.slice _ _ _) rfl ?_
       | refine OW_assignV (.bool _) rfl ?_
       | refine OW_assignV (.pointer _) rfl ?_
       | refine OW_assignV (.string _) rfl ?_
       | refine OW_assignV (.agg _) rfl ?_
       | refine OW_assignV (.tuple _) rfl ?_
       | refine OW_addI rfl rfl (by omega) ?_
       | refine OW_subI rfl rfl (by omega) ?_
       | refine OW_mulI rfl rfl (by omega) ?_
       | refine OW_lss rfl rfl ?_
       | refine OW_extract rfl rfl ?_
       | refine OW_gtr rfl rfl ?_
       | refine OW_leq rfl rfl ?_
       | refine OW_geq rfl rfl ?_
       | refine OW_eql rfl rfl ?_
       | refine OW_neq rfl rfl ?_
       | refine OW_not rfl ?_
       | refine OW_pickT rfl _ rfl ?_
       | refine OW_pickF rfl (.bool _) rfl ?_
       | refine OW_pickB rfl rfl rfl ?_
       | refine OW_move ?_
       | refine OW_assign ?_
       | refine OW_pass rfl ?_
       | refine OW_take rfl ?_
       | refine OW_lenS (by first | with_reducible exact und_bytes | with_reducible exact und_bytess) rfl ?_
       | refine OW_convInt (by first | with_reducible exact und_u8 | with_reducible exact und_u64 | with_reducible exact und_int | with_reducible exact und_u32) (by first | with_reducible exact und_u8 | with_reducible exact und_u64 | with_reducible exact und_int | with_reducible exact und_u32) rfl ?_
       | refine OW_add rfl rfl ?_
       | refine OW_sub rfl rfl ?_
       | refine OW_mul rfl rfl ?_
       | refine OW_min2 rfl rfl ?_
       | refine OW_max2 rfl rfl ?_
       | refine OW_neg rfl ?_
       | refine CW_block ?_
       | refine CW_condT rfl ?_
       | refine CW_condF rfl ?_
       | refine CW_exit ?_
       | refine CW_ret ?_
       | refine CW_skip ?_
       | refine LW_seq ?_
       | refine LW_regC ?_
       | refine LW_condC ?_
       | refine LW_regF ?_
       | refine LW_condF ?_
       | refine FW_seq ?_
       | refine FW_region (by kernel_rfl) ?_
       | refine FW_block ?_
       | refine FW_condT rfl ?_
       | refine FW_condF rfl ?_
       | refine FW_exit ?_
       | refine FW_ret ?_
       | refine FW_skip ?_
       | refine LW_ret ?_
       | refine LW_skip ?_
       | refine thenE_exit ?_
       | refine thenE_ret ?_
       | refine inBlockE_normal ?_
       | refine inBlockE_same ?_
       | refine inBlockE_ret ?_
       | refine inBlockE_ne (by rfl) ?_
       | refine OW_eqlB (by with_reducible exact und_bool) rfl rfl ?_
       | refine OW_neqB (by with_reducible exact und_bool) rfl rfl ?_
       | refine OW_idxS (by with_reducible exact und_bytes) one_u8 rfl rfl _ rfl (by omega) ?_
       | refine OW_idxS (by with_reducible exact und_bytess) one_bytes rfl rfl _ rfl (by omega) ?_
       | refine OW_load1 (by first | with_reducible exact one_u8 | with_reducible exact one_bytes) rfl _ (by assumption) ?_
       | refine OW_load1 (by with_reducible exact one_u8) rfl _ (hk.ext.cell' (by assumption)) ?_)
      refine OW_nil ?_
      exact keepsF_mk _ _ _ _
    refine ⟨?_, ?_⟩
    · refine Obl_of (fun e1 w1 hk => ?_)
      rw [upd_self (hk.pre 4 8 rfl rfl : isV _ _ _)]
      refine OW_idxL 0 und_bytes one_u8 rfl rfl (by decide) ?_
      refine OW_nil ?_
      exact keepsF_mk _ _ _ _
    refine ⟨?_, ?_⟩
    · refine Obl_of (fun e1 w1 hk => ?_)
      rw [upd_self (hk.pre 5 9 rfl rfl : isV _ _ _)]
      (first
       | refine OW_moveV (.int _ _) rfl ?_
       | refine OW_moveV (.slice _ _ _) rfl ?_
       | refine OW_moveV (.bool _) rfl ?_
       | refine OW_moveV (.pointer _) rfl ?_
       | refine OW_moveV (.string _) rfl ?_
       | refine OW_moveV (.agg _) rfl ?_
       | refine OW_moveV (.tuple _) rfl ?_
       | refine OW_nil ?_
       | refine thenE_normal ?_
       | refine CW_seq ?_
       | refine CW_region (by kernel_rfl) ?_
       | refine OW_assignV (.int _ _) rfl ?_
       | refine OW_assignV (.slice _ _ _) rfl ?_
       | refine OW_assignV (.bool _) rfl ?_
       | refine OW_assignV (.pointer _) rfl ?_
       | refine OW_assignV (.string _) rfl ?_
       | refine OW_assignV (.agg _) rfl ?_
       | refine OW_assignV (.tuple _) rfl ?_
       | refine OW_addI rfl rfl (by omega) ?_
       | refine OW_subI rfl rfl (by omega) ?_
       | refine OW_mulI rfl rfl (by omega) ?_
       | refine OW_lss rfl rfl ?_
       | refine OW_extract rfl rfl ?_
       | refine OW_gtr rfl rfl ?_
       | refine OW_leq rfl rfl ?_
       | refine OW_geq rfl rfl ?_
       | refine OW_eql rfl rfl ?_
       | refine OW_neq rfl rfl ?_
       | refine OW_not rfl ?_
       | refine OW_pickT rfl _ rfl ?_
       | refine OW_pickF rfl (.bool _) rfl ?_
       | refine OW_pickB rfl rfl rfl ?_
       | refine OW_move ?_
       | refine OW_assign ?_
       | refine OW_pass rfl ?_
       | refine OW_take rfl ?_
       | refine OW_lenS (by first | with_reducible exact und_bytes | with_reducible exact und_bytess) rfl ?_
       | refine OW_convInt (by first | with_reducible exact und_u8 | with_reducible exact und_u64 | with_reducible exact und_int | with_reducible exact und_u32) (by first | with_reducible exact und_u8 | with_reducible exact und_u64 | with_reducible exact und_int | with_reducible exact und_u32) rfl ?_
       | refine OW_add rfl rfl ?_
       | refine OW_sub rfl rfl ?_
       | refine OW_mul rfl rfl ?_
       | refine OW_min2 rfl rfl ?_
       | refine OW_max2 rfl rfl ?_
       | refine OW_neg rfl ?_
       | refine CW_block ?_
       | refine CW_condT rfl ?_
       | refine CW_condF rfl ?_
       | refine CW_exit ?_
       | refine CW_ret ?_
       | refine CW_skip ?_
       | refine LW_seq ?_
       | refine LW_regC ?_
       | refine LW_condC ?_
       | refine LW_regF ?_
       | refine LW_condF ?_
       | refine FW_seq ?_
       | refine FW_region (by kernel_rfl) ?_
       | refine FW_block ?_
       | refine FW_condT rfl ?_
       | refine FW_condF rfl ?_
       | refine FW_exit ?_
       | refine FW_ret ?_
       | refine FW_skip ?_
       | refine LW_ret ?_
       | refine LW_skip ?_
       | refine thenE_exit ?_
       | refine thenE_ret ?_
       | refine inBlockE_normal ?_
       | refine inBlockE_same ?_
       | refine inBlockE_ret ?_
       | refine inBlockE_ne (by rfl) ?_
       | refine OW_eqlB (by with_reducible exact und_bool) rfl rfl ?_
       | refine OW_neqB (by with_reducible exact und_bool) rfl rfl ?_
       | refine OW_idxS (by with_reducible exact und_bytes) one_u8 rfl rfl _ rfl (by omega) ?_
       | refine OW_idxS (by with_reducible exact und_bytess) one_bytes rfl rfl _ rfl (by omega) ?_
       | refine OW_load1 (by first | with_reducible exact one_u8 | with_reducible exact one_bytes) rfl _ (by assumption) ?_
       | refine OW_load1 (by with_reducible exact one_u8) rfl _ (hk.ext.cell' (by assumption)) ?_)
      refine OW_nil ?_
      exact keepsF_mk _ _ _ _
    refine ⟨?_, ?_⟩
    · refine Obl_of (fun e1 w1 hk => ?_)
      rw [upd_self (hk.pre 6 10 rfl rfl : isV _ _ _)]
      (first
       | refine OW_moveV (.int _ _) rfl ?_
       | refine OW_moveV (.slice _ _ _) rfl ?_
       | refine OW_moveV (.bool _) rfl ?_
       | refine OW_moveV (.pointer _) rfl ?_
       | refine OW_moveV (.string _) rfl ?_
       | refine OW_moveV (.agg _) rfl ?_
       | refine OW_moveV (.tuple _) rfl ?_
       | refine OW_nil ?_
       | refine thenE_normal ?_
       | refine CW_seq ?_
       | refine CW_region (by kernel_rfl) ?_
       | refine OW_assignV (.int _ _) rfl ?_
       | refine OW_assignV (.slice _ _ _) rfl ?_
       | refine OW_assignV (.bool _) rfl ?_
       | refine OW_assignV (.pointer _) rfl ?_
       | refine OW_assignV (.string _) rfl ?_
       | refine OW_assignV (.agg _) rfl ?_
       | refine OW_assignV (.tuple _) rfl ?_
       | refine OW_addI rfl rfl (by omega) ?_
       | refine OW_subI rfl rfl (by omega) ?_
       | refine OW_mulI rfl rfl (by omega) ?_
       | refine OW_lss rfl rfl ?_
       | refine OW_extract rfl rfl ?_
       | refine OW_gtr rfl rfl ?_
       | refine OW_leq rfl rfl ?_
       | refine OW_geq rfl rfl ?_
       | refine OW_eql rfl rfl ?_
       | refine OW_neq rfl rfl ?_
       | refine OW_not rfl ?_
       | refine OW_pickT rfl _ rfl ?_
       | refine OW_pickF rfl (.bool _) rfl ?_
       | refine OW_pickB rfl rfl rfl ?_
       | refine OW_move ?_
       | refine OW_assign ?_
       | refine OW_pass rfl ?_
       | refine OW_take rfl ?_
       | refine OW_lenS (by first | with_reducible exact und_bytes | with_reducible exact und_bytess) rfl ?_
       | refine OW_convInt (by first | with_reducible exact und_u8 | with_reducible exact und_u64 | with_reducible exact und_int | with_reducible exact und_u32) (by first | with_reducible exact und_u8 | with_reducible exact und_u64 | with_reducible exact und_int | with_reducible exact und_u32) rfl ?_
       | refine OW_add rfl rfl ?_
       | refine OW_sub rfl rfl ?_
       | refine OW_mul rfl rfl ?_
       | refine OW_min2 rfl rfl ?_
       | refine OW_max2 rfl rfl ?_
       | refine OW_neg rfl ?_
       | refine CW_block ?_
       | refine CW_condT rfl ?_
       | refine CW_condF rfl ?_
       | refine CW_exit ?_
       | refine CW_ret ?_
       | refine CW_skip ?_
       | refine LW_seq ?_
       | refine LW_regC ?_
       | refine LW_condC ?_
       | refine LW_regF ?_
       | refine LW_condF ?_
       | refine FW_seq ?_
       | refine FW_region (by kernel_rfl) ?_
       | refine FW_block ?_
       | refine FW_condT rfl ?_
       | refine FW_condF rfl ?_
       | refine FW_exit ?_
       | refine FW_ret ?_
       | refine FW_skip ?_
       | refine LW_ret ?_
       | refine LW_skip ?_
       | refine thenE_exit ?_
       | refine thenE_ret ?_
       | refine inBlockE_normal ?_
       | refine inBlockE_same ?_
       | refine inBlockE_ret ?_
       | refine inBlockE_ne (by rfl) ?_
       | refine OW_eqlB (by with_reducible exact und_bool) rfl rfl ?_
       | refine OW_neqB (by with_reducible exact und_bool) rfl rfl ?_
       | refine OW_idxS (by with_reducible exact und_bytes) one_u8 rfl rfl _ rfl (by omega) ?_
       | refine OW_idxS (by with_reducible exact und_bytess) one_bytes rfl rfl _ rfl (by omega) ?_
       | refine OW_load1 (by first | with_reducible exact one_u8 | with_reducible exact one_bytes) rfl _ (by assumption) ?_
       | refine OW_load1 (by with_reducible exact one_u8) rfl _ (hk.ext.cell' (by assumption)) ?_)
      refine OW_nil ?_
      exact keepsF_mk _ _ _ _
    refine ⟨?_, ?_⟩
    · refine Obl_of (fun e1 w1 hk => ?_)
      rw [upd_self (hk.pre 3 7 rfl rfl : isV _ _ _)]
      (first
       | refine OW_moveV (.int _ _) rfl ?_
       | refine OW_moveV (.slice _ _ _) rfl ?_
       | refine OW_moveV (.bool _) rfl ?_
       | refine OW_moveV (.pointer _) rfl ?_
       | refine OW_moveV (.string _) rfl ?_
       | refine OW_moveV (.agg _) rfl ?_
       | refine OW_moveV (.tuple _) rfl ?_
       | refine OW_nil ?_
       | refine thenE_normal ?_
       | refine CW_seq ?_
       | refine CW_region (by kernel_rfl) ?_
       | refine OW_assignV (.int _ _) rfl ?_
       | refine OW_assignV (.slice _ _ _) rfl ?_
       | refine OW_assignV (.bool _) rfl ?_
       | refine OW_assignV (.pointer _) rfl ?_
       | refine OW_assignV (.string _) rfl ?_
       | refine OW_assignV (.agg _) rfl ?_
       | refine OW_assignV (.tuple _) rfl ?_
       | refine OW_addI rfl rfl (by omega) ?_
       | refine OW_subI rfl rfl (by omega) ?_
       | refine OW_mulI rfl rfl (by omega) ?_
       | refine OW_lss rfl rfl ?_
       | refine OW_extract rfl rfl ?_
       | refine OW_gtr rfl rfl ?_
       | refine OW_leq rfl rfl ?_
       | refine OW_geq rfl rfl ?_
       | refine OW_eql rfl rfl ?_
       | refine OW_neq rfl rfl ?_
       | refine OW_not rfl ?_
       | refine OW_pickT rfl _ rfl ?_
       | refine OW_pickF rfl (.bool _) rfl ?_
       | refine OW_pickB rfl rfl rfl ?_
       | refine OW_move ?_
       | refine OW_assign ?_
       | refine OW_pass rfl ?_
       | refine OW_take rfl ?_
       | refine OW_lenS (by first | with_reducible exact und_bytes | with_reducible exact und_bytess) rfl ?_
       | refine OW_convInt (by first | with_reducible exact und_u8 | with_reducible exact und_u64 | with_reducible exact und_int | with_reducible exact und_u32) (by first | with_reducible exact und_u8 | with_reducible exact und_u64 | with_reducible exact und_int | with_reducible exact und_u32) rfl ?_
       | refine OW_add rfl rfl ?_
       | refine OW_sub rfl rfl ?_
       | refine OW_mul rfl rfl ?_
       | refine OW_min2 rfl rfl ?_
       | refine OW_max2 rfl rfl ?_
       | refine OW_neg rfl ?_
       | refine CW_block ?_
       | refine CW_condT rfl ?_
       | refine CW_condF rfl ?_
       | refine CW_exit ?_
       | refine CW_ret ?_
       | refine CW_skip ?_
       | refine LW_seq ?_
       | refine LW_regC ?_
       | refine LW_condC ?_
       | refine LW_regF ?_
       | refine LW_condF ?_
       | refine FW_seq ?_
       | refine FW_region (by kernel_rfl) ?_
       | refine FW_block ?_
       | refine FW_condT rfl ?_
       | refine FW_condF rfl ?_
       | refine FW_exit ?_
       | refine FW_ret ?_
       | refine FW_skip ?_
       | refine LW_ret ?_
       | refine LW_skip ?_
       | refine thenE_exit ?_
       | refine thenE_ret ?_
       | refine inBlockE_normal ?_
       | refine inBlockE_same ?_
       | refine inBlockE_ret ?_
       | refine inBlockE_ne (by rfl) ?_
       | refine OW_eqlB (by with_reducible exact und_bool) rfl rfl ?_
       | refine OW_neqB (by with_reducible exact und_bool) rfl rfl ?_
       | refine OW_idxS (by with_reducible exact und_bytes) one_u8 rfl rfl _ rfl (by omega) ?_
       | refine OW_idxS (by with_reducible exact und_bytess) one_bytes rfl rfl _ rfl (by omega) ?_
       | refine OW_load1 (by first | with_reducible exact one_u8 | with_reducible exact one_bytes) rfl _ (by assumption) ?_
       | refine OW_load1 (by with_reducible exact one_u8) rfl _ (hk.ext.cell' (by assumption)) ?_)
      refine OW_nil ?_
      exact keepsF_mk _ _ _ _
    refine ⟨?_, ?_⟩
    · refine Obl_of (fun e1 w1 hk => ?_)
      rw [upd_self (hk.pre 7 11 rfl rfl : isV _ _ _)]
      (first
       | refine OW_moveV (.int _ _) rfl ?_
       | refine OW_moveV (.slice _ _ _) rfl ?_
       | refine OW_moveV (.bool _) rfl ?_
       | refine OW_moveV (.pointer _) rfl ?_
       | refine OW_moveV (.string _) rfl ?_
       | refine OW_moveV (.agg _) rfl ?_
       | refine OW_moveV (.tuple _) rfl ?_
       | refine OW_nil ?_
       | refine thenE_normal ?_
       | refine CW_seq ?_
       | refine CW_region (by kernel_rfl) ?_
       | refine OW_assignV (.int _ _) rfl ?_
       | refine OW_assignV (.slice _ _ _) rfl ?_
       | refine OW_assignV (.bool _) rfl ?_
       | refine OW_assignV (.pointer _) rfl ?_
       | refine OW_assignV (.string _) rfl ?_
       | refine OW_assignV (.agg _) rfl ?_
       | refine OW_assignV (.tuple _) rfl ?_
       | refine OW_addI rfl rfl (by omega) ?_
       | refine OW_subI rfl rfl (by omega) ?_
       | refine OW_mulI rfl rfl (by omega) ?_
       | refine OW_lss rfl rfl ?_
       | refine OW_extract rfl rfl ?_
       | refine OW_gtr rfl rfl ?_
       | refine OW_leq rfl rfl ?_
       | refine OW_geq rfl rfl ?_
       | refine OW_eql rfl rfl ?_
       | refine OW_neq rfl rfl ?_
       | refine OW_not rfl ?_
       | refine OW_pickT rfl _ rfl ?_
       | refine OW_pickF rfl (.bool _) rfl ?_
       | refine OW_pickB rfl rfl rfl ?_
       | refine OW_move ?_
       | refine OW_assign ?_
       | refine OW_pass rfl ?_
       | refine OW_take rfl ?_
       | refine OW_lenS (by first | with_reducible exact und_bytes | with_reducible exact und_bytess) rfl ?_
       | refine OW_convInt (by first | with_reducible exact und_u8 | with_reducible exact und_u64 | with_reducible exact und_int | with_reducible exact und_u32) (by first | with_reducible exact und_u8 | with_reducible exact und_u64 | with_reducible exact und_int | with_reducible exact und_u32) rfl ?_
       | refine OW_add rfl rfl ?_
       | refine OW_sub rfl rfl ?_
       | refine OW_mul rfl rfl ?_
       | refine OW_min2 rfl rfl ?_
       | refine OW_max2 rfl rfl ?_
       | refine OW_neg rfl ?_
       | refine CW_block ?_
       | refine CW_condT rfl ?_
       | refine CW_condF rfl ?_
       | refine CW_exit ?_
       | refine CW_ret ?_
       | refine CW_skip ?_
       | refine LW_seq ?_
       | refine LW_regC ?_
       | refine LW_condC ?_
       | refine LW_regF ?_
       | refine LW_condF ?_
       | refine FW_seq ?_
       | refine FW_region (by kernel_rfl) ?_
       | refine FW_block ?_
       | refine FW_condT rfl ?_
       | refine FW_condF rfl ?_
       | refine FW_exit ?_
       | refine FW_ret ?_
       | refine FW_skip ?_
       | refine LW_ret ?_
       | refine LW_skip ?_
       | refine thenE_exit ?_
       | refine thenE_ret ?_
       | refine inBlockE_normal ?_
       | refine inBlockE_same ?_
       | refine inBlockE_ret ?_
       | refine inBlockE_ne (by rfl) ?_
       | refine OW_eqlB (by with_reducible exact und_bool) rfl rfl ?_
       | refine OW_neqB (by with_reducible exact und_bool) rfl rfl ?_
       | refine OW_idxS (by with_reducible exact und_bytes) one_u8 rfl rfl _ rfl (by omega) ?_
       | refine OW_idxS (by with_reducible exact und_bytess) one_bytes rfl rfl _ rfl (by omega) ?_
       | refine OW_load1 (by first | with_reducible exact one_u8 | with_reducible exact one_bytes) rfl _ (by assumption) ?_
       | refine OW_load1 (by with_reducible exact one_u8) rfl _ (hk.ext.cell' (by assumption)) ?_)
      refine OW_nil ?_
      exact keepsF_mk _ _ _ _
    trivial
  case h =>
    intro e1 w1 hw1 hout hall
    rw [upd_self (hall 8 2 rfl : isV _ _ _), upd_self (hall 9 3 rfl : isV _ _ _)]
    refine go_WireR3 (k := ?_)
    exact bodyE_ret2 rfl _ _ rfl rfl ⟨rfl, hw1⟩
set_option maxHeartbeats 8000000 in
theorem rFlag_any (w : World) (g : Nat) (S : Nat → Prop) (s : List UInt8 × Int) (h : RR w g S s) : Calls Try.prog 35 #[.pointer (some ⟨g, 0, none⟩)] w (RPost w g S (.bool (fits s 1 && decide (((s.1.headD 0).toNat : Int) = 1))) (stepS s 1 (decide (((s.1.headD 0).toNat : Int) ≤ 1)))) := by
  have T := take_bool w g S s h 1 (by omega) _ _ [] (fun _ v => v = .bool (decide (((s.1.headD 0).toNat : Int) = 1))) (decide (((s.1.headD 0).toNat : Int) ≤ 1)) Try.func80 (by kernel_rfl) rfl (fun _ _ _ _ _ h => h)
    (fun _ _ hl w1 A hx hb hlen => by
      have h1 : s.1.take (1 : Int).toNat = [s.1.headD 0] := by
        rw [one_of (l := s.1.take (1 : Int).toNat) hlen]
        cases s.1 <;> rfl
      rw [h1] at hb
      exact (cFlag_any w1 A _ hb).mono (fun en w' hh => ⟨_, hh.1, hh.2, rfl⟩))
  refine calls_of_CW Try.func35 rfl (by simp [Try.ntmps35]) ?_
  rw [Try.ntmps35]
  refine go_WireR3 (k := ?_)
  refine OW_callC Try.func79 (by kernel_rfl) rfl (T.mono (fun en w' hh => take_sum (v0 := .bool (fits s 1 && decide (((s.1.headD 0).toNat : Int) = 1))) (by
    by_cases hb : ((s.1.headD 0).toNat : Int) = 1
    · rw [decide_eq_true hb, decide_eq_true (show ((s.1.headD 0).toNat : Int) ≤ 1 by omega)]; cases fits s 1 <;> rfl
    · rw [decide_eq_false hb]; cases fits s 1 <;> cases decide (((s.1.headD 0).toNat : Int) ≤ 1) <;> rfl) hh)) rfl ?_
  rintro en w3 ⟨rfl, hr, hk⟩
  refine ⟨_, rfl, ?_⟩
  refine go_WireR3 (k := ?_)
  exact bodyE_ret1 rfl _ rfl ⟨rfl, hr, hk⟩

set_option maxHeartbeats 8000000 in
theorem cLen_any (w : World) (A : Option Addr) (l : List UInt8) (hb : Bs w A l) (hl : l.length = 4) : Calls Try.prog 81 #[.slice A 4 4] w (RetV w (.tuple #[.int .i64 (loadL l : Int), .bool (decide ((loadL l : Int) ≤ 65536))])) := by
  have T := load32_any w A l 4 0 hb (by omega) (by omega) (by omega)
  have hlt := ldV_lt l 0 4
  rw [ldV_all l 4 hl] at hlt
  rw [ldV_all l 4 hl, hl] at T
  refine calls_of_CW Try.func81 rfl (by simp [Try.ntmps81]) ?_
  rw [Try.ntmps81]
  refine go_WireR3 (k := ?_)
  refine OW_callV Try.func82 (by kernel_rfl) rfl T rfl ?_
  intro w1 hx
  refine go_WireR3 (k := ?_)
  rw [wrap_i64_of _ (by omega)]
  refine go_WireR3 (k := ?_)
  exact bodyE_ret2 rfl (.int .i64 (loadL l : Int)) (.bool (decide ((loadL l : Int) ≤ 65536))) rfl rfl ⟨rfl, hx⟩
set_option maxHeartbeats 8000000 in
theorem cCat_any (w : World) (A : Option Addr) (l : List UInt8) (c : Nat) (hb : Bs w A l) (hl : l.length ≤ 1000000) : Calls Try.prog 84 #[.slice A l.length c] w (fun en w' => ∃ A2 c2, en = .returned (.tuple #[.slice A2 l.length c2, .bool true]) ∧ Fresh 5 w w' A2 c2 l) := by
  refine calls_of_CW Try.func84 rfl (by simp [Try.ntmps84]) ?_
  rw [Try.ntmps84]
  refine go_WireR3 (k := ?_)
  refine OW_lit [sv (A, c, l)] (by with_reducible exact und_bytess) info_bytes rfl rfl (by simp [sv, Value.oneCell']) (by decide) ?_
  intro w2 g2 hb2 hg2 hx2
  refine go_WireR3 (k := ?_)
  refine OW_callBs Try.func50 (by kernel_rfl) rfl (cat_any w2 (some ⟨g2, 0, none⟩) 1 [(A, c, l)] (blk_rd _ hb2) (fun x hx => by
    rw [List.mem_singleton] at hx
    subst hx
    exact hb.ext hx2) (by simp) (by simp [flat]; omega)) rfl ?_
  intro w3 A3 c3 hf3
  have hfl : flat [(A, c, l)] = l := by simp [flat]
  rw [hfl] at hf3 ⊢
  refine go_WireR3 (k := ?_)
  exact bodyE_ret2 rfl (.slice A3 l.length c3) (.bool true) rfl rfl ⟨A3, c3, rfl, hf3.back hx2⟩
/-- How many bytes are to come; the reader behind that number; the bytes; the reader behind them. -/
def lenOk (s : List UInt8 × Int) : Bool := decide ((loadL (s.1.take 4) : Int) ≤ 65536)
def lenN (s : List UInt8 × Int) : Int := if fits s 4 && lenOk s then (loadL (s.1.take 4) : Int) else 0
def bytesV (s : List UInt8 × Int) : List UInt8 := if fits (stepS s 4 (lenOk s)) (lenN s) then (stepS s 4 (lenOk s)).1.take (lenN s).toNat else []
def bytesS (s : List UInt8 × Int) : List UInt8 × Int := stepS (stepS s 4 (lenOk s)) (lenN s) true
def RBytes (w : World) (g : Nat) (S : Nat → Prop) (l : List UInt8) (s : List UInt8 × Int) : Ending → World → Prop := fun en w' => ∃ A c, en = .returned (.slice A l.length c) ∧ w'.ownsRow w.heap.size 5 1 (.slice A l.length c) l.length (l.map bv) ∧ RR w' g S s ∧ Keeps w w' (· = g)
set_option maxHeartbeats 8000000 in
theorem rBytes_any (w : World) (g : Nat) (S : Nat → Prop) (s : List UInt8 × Int) (h : RR w g S s) : Calls Try.prog 36 #[.pointer (some ⟨g, 0, none⟩)] w (RBytes w g S (bytesV s) (bytesS s)) := by
  have hg : g < w.heap.size := h.bd _ h.in_
  have T := take_int w g S s h 4 (by omega) _ _ [] (fun _ v => v = .int .i64 (loadL (s.1.take 4) : Int)) (lenOk s) Try.func81 (by kernel_rfl) rfl (fun _ _ _ _ _ h => h)
    (fun _ _ hl w1 A hx hb hlen => (cLen_any w1 A _ hb hlen).mono (fun en w' hh => ⟨_, hh.1, hh.2, rfl⟩))
  refine calls_of_CW Try.func36 rfl (by simp [Try.ntmps36]) ?_
  rw [Try.ntmps36]
  refine go_WireR3 (k := ?_)
  refine OW_callC Try.func76 (by kernel_rfl) rfl (T.mono (fun en w' hh => take_sum (v0 := .int .i64 (lenN s)) (by unfold lenN; cases fits s 4 && lenOk s <;> rfl) hh)) rfl ?_
  rintro en w1 ⟨rfl, hr, hk⟩
  refine ⟨_, rfl, ?_⟩
  have hn : 0 ≤ lenN s ∧ lenN s ≤ 65536 := by
    unfold lenN
    split
    · rename_i hh
      have h2 := of_decide_eq_true (Bool.and_eq_true_iff.1 hh).2
      omega
    · omega
  have T2 := take_bytes w1 g S _ hr (lenN s) (by omega) _ _ [] (fun w' v => ∃ A c, v = .slice A ((stepS s 4 (lenOk s)).1.take (lenN s).toNat).length c ∧ w'.ownsRow w1.heap.size 5 1 v ((stepS s 4 (lenOk s)).1.take (lenN s).toNat).length (((stepS s 4 (lenOk s)).1.take (lenN s).toNat).map bv)) true Try.func84 (by kernel_rfl) rfl
    (fun u1 u2 v hk2 hsz hh => by
      obtain ⟨A, c, hv, ho⟩ := hh
      subst hv
      exact ⟨A, c, rfl, own_keeps ho hk2 (fun ad ha hb => by have h1 := (own_block ho ad ha).1; have h2 := hk.size; omega)⟩)
    (fun _ _ hl u1 A hx hb hlen => by
      have hc := cCat_any u1 A _ (lenN s).toNat hb (by omega)
      rw [hlen] at hc
      exact hc.mono (fun en w' hh => by
        obtain ⟨A2, c2, h1, h2⟩ := hh
        refine ⟨_, h1, h2.ext, A2, c2, by rw [hlen], ?_⟩
        have h3 := own_mono h2.own hx.size
        rw [hlen] at h3 ⊢
        exact h3))
  refine go_WireR3 (k := ?_)
  refine OW_callC Try.func83 (by kernel_rfl) rfl T2 rfl ?_
  rintro en w2 ⟨v, rfl, hk2, hh⟩
  refine ⟨_, rfl, ?_⟩
  have hkk := hk.trans' hk2
  refine go_WireR3 (k := ?_)
  have hf1 : fits (stepS s 4 (lenOk s)) (lenN s) = decide ((stepS s 4 (lenOk s)).2 = 0 ∧ 0 ≤ lenN s ∧ lenN s ≤ (stepS s 4 (lenOk s)).1.length) := rfl
  rcases hh with ⟨h1, h2, h3⟩ | ⟨h1, h2, h3, h4⟩ | ⟨_, _, _, h4, _⟩ | ⟨h1, h2, h3, h4, ⟨A, c, h5, h6⟩, h7⟩
  · subst h2
    have hv : bytesV s = [] := by unfold bytesV; rw [hf1, decide_eq_false (fun hh => h1 hh.1)]; rfl
    have hs : bytesS s = stepS s 4 (lenOk s) := by unfold bytesS; rw [stepS, if_pos h1]
    rw [hv, hs]
    exact bodyE_ret1 rfl (.slice none 0 0) rfl ⟨none, 0, rfl, World.ownsRow_nil _ _ _ _, h3, hkk⟩
  · subst h3
    have hv : bytesV s = [] := by unfold bytesV; rw [hf1, decide_eq_false (fun hh => by omega)]; rfl
    have hs : bytesS s = ([], 40) := by unfold bytesS; rw [stepS, if_neg (by simpa using h1), if_pos h2]
    rw [hv, hs]
    exact bodyE_ret1 rfl (.slice none 0 0) rfl ⟨none, 0, rfl, World.ownsRow_nil _ _ _ _, h4, hkk⟩
  · cases h4
  · subst h5
    have hv : bytesV s = (stepS s 4 (lenOk s)).1.take (lenN s).toNat := by unfold bytesV; rw [hf1, decide_eq_true ⟨h1, h2, h3⟩]; rfl
    have hs : bytesS s = ((stepS s 4 (lenOk s)).1.drop (lenN s).toNat, 0) := by unfold bytesS; rw [stepS, if_neg (by simpa using h1), if_neg (by omega)]; rfl
    rw [hv, hs]
    exact bodyE_ret1 rfl (.slice A _ c) rfl ⟨A, c, rfl, own_mono h6 hk.size, h7, hkk⟩
set_option maxHeartbeats 8000000 in
theorem rText_any (w : World) (g : Nat) (S : Nat → Prop) (s : List UInt8 × Int) (h : RR w g S s) : Calls Try.prog 37 #[.pointer (some ⟨g, 0, none⟩)] w (RPost w g S (.string ⟨(bytesV s).toArray⟩) (bytesS s)) := by
  refine calls_of_CW Try.func37 rfl (by simp [Try.ntmps37]) ?_
  rw [Try.ntmps37]
  refine go_WireR3 (k := ?_)
  refine OW_callC Try.func36 (by kernel_rfl) rfl (rBytes_any w g S s h) rfl ?_
  rintro en w1 ⟨A, c, rfl, ho, hr, hk⟩
  refine ⟨_, rfl, ?_⟩
  refine go_WireR3 (k := ?_)
  refine OW_strOf (by with_reducible exact und_bytes) und_u8 und_string (own_rd ho) rfl ?_
  refine go_WireR3 (k := ?_)
  exact bodyE_ret1 rfl _ rfl ⟨rfl, hr, hk⟩
end Go.Proofs.Ytdpomchhbbopbaa

/- Walks: take of a tag, and the Reader's Tag. -/
namespace Go.Proofs.Ytdpomchhbbopbaa
open Go Go.RowKit
set_option linter.unusedVariables false
set_option maxRecDepth 2000
theorem go_TakeTag {A B : Prop} (h : Held B → A := by
  intro hEnd
  repeat (first | refine OW_moveV (.int _ _) rfl ?_ | refine OW_moveV (.slice _ _ _) rfl ?_ | refine OW_moveV (.bool _) rfl ?_ | refine OW_moveV (.pointer _) rfl ?_ | refine OW_moveV (.string _) rfl ?_ | refine OW_moveV (.agg _) rfl ?_ | refine OW_moveV (.tuple _) rfl ?_ | refine OW_nil ?_ | refine thenE_normal ?_ | refine CW_seq ?_ | refine CW_region (by kernel_rfl) ?_ | refine OW_assignV (.int _ _) rfl ?_ | refine OW_assignV (.slice _ _ _) rfl ?_ | refine OW_assignV (.bool _) rfl ?_ | refine OW_assignV (.pointer _) rfl ?_ | refine OW_assignV (.string _) rfl ?_ | refine OW_assignV (.agg _) rfl ?_ | refine OW_assignV (.tuple _) rfl ?_ | refine OW_addI rfl rfl (by omega) ?_ | refine OW_subI rfl rfl (by omega) ?_ | refine OW_mulI rfl rfl (by omega) ?_ | refine OW_lss rfl rfl ?_ | refine OW_extract rfl rfl ?_ | refine OW_gtr rfl rfl ?_ | refine OW_leq rfl rfl ?_ | refine OW_geq rfl rfl ?_ | refine OW_eql rfl rfl ?_ | refine OW_neq rfl rfl ?_ | refine OW_not rfl ?_ | refine OW_pickT rfl _ rfl ?_ | refine OW_pickF rfl (.bool _) rfl ?_ | refine OW_pickB rfl rfl rfl ?_ | refine OW_move ?_ | refine OW_assign ?_ | refine OW_pass rfl ?_ | refine OW_take rfl ?_ | refine OW_lenS (by first | with_reducible exact und_bytes | with_reducible exact und_bytess) rfl ?_ | refine OW_convInt (by first | with_reducible exact und_u8 | with_reducible exact und_u64 | with_reducible exact und_int | with_reducible exact und_u32) (by first | with_reducible exact und_u8 | with_reducible exact und_u64 | with_reducible exact und_int | with_reducible exact und_u32) rfl ?_ | refine OW_add rfl rfl ?_ | refine OW_sub rfl rfl ?_ | refine OW_mul rfl rfl ?_ | refine OW_min2 rfl rfl ?_ | refine OW_max2 rfl rfl ?_ | refine OW_neg rfl ?_ | refine CW_block ?_ | refine CW_condT rfl ?_ | refine CW_condF rfl ?_ | refine CW_exit ?_ | refine CW_ret ?_ | refine CW_skip ?_ | refine LW_seq ?_ | refine LW_regC ?_ | refine LW_condC ?_ | refine LW_regF ?_ | refine LW_condF ?_ | refine FW_seq ?_ | refine FW_region (by kernel_rfl) ?_ | refine FW_block ?_ | refine FW_condT rfl ?_ | refine FW_condF rfl ?_ | refine FW_exit ?_ | refine FW_ret ?_ | refine FW_skip ?_ | refine LW_ret ?_ | refine LW_skip ?_ | refine thenE_exit ?_ | refine thenE_ret ?_ | refine inBlockE_normal ?_ | refine inBlockE_same ?_ | refine inBlockE_ret ?_ | refine inBlockE_ne (by rfl) ?_ | refine OW_eqlB (by with_reducible exact und_bool) rfl rfl ?_ | refine OW_neqB (by with_reducible exact und_bool) rfl rfl ?_ | refine OW_idxS (by with_reducible exact und_bytes) one_u8 rfl rfl _ rfl (by omega) ?_ | refine OW_idxS (by with_reducible exact und_bytess) one_bytes rfl rfl _ rfl (by omega) ?_ | refine OW_load1 (by first | with_reducible exact one_u8 | with_reducible exact one_bytes) rfl _ (by assumption) ?_ | refine OW_nilCheck rfl ?_ | refine OW_fieldF fld_R0 rfl ?_ | refine OW_fieldF fld_R1 rfl ?_ | refine OW_fieldF fld_R2 rfl ?_)
  exact hEnd.out) (k : B) : A := h ⟨k⟩
def tz : List UInt8 := List.replicate 32 0
theorem agg_Tag : AggT Try.prog 25 32 (tz.map bv) := ⟨⟨_, Try.underlying25, rfl⟩, by kernel_rfl, fun w => by kernel_rfl⟩
theorem arr_Tag : ArrP Try.prog 25 32 := ⟨⟨_, Try.underlying25⟩⟩
theorem bv_one' (l : List UInt8) : ∀ v ∈ l.map bv, v.oneCell' = true := by
  intro u hu; obtain ⟨b, _, rfl⟩ := List.mem_map.1 hu; rfl
set_option maxHeartbeats 8000000 in
theorem cTag_any (w : World) (A : Option Addr) (l : List UInt8) (hb : Bs w A l) (hl : l.length = 32) : Calls Try.prog 86 #[.slice A 32 32] w (RetV w (.tuple #[.agg (l.map bv).toArray, .bool true])) := by
  cases A with
  | none =>
    exfalso
    cases l with
    | nil => cases hl
    | cons b r => obtain ⟨ad, ha, _⟩ := hb 0 (bv b) rfl; cases ha
  | some ad =>
  obtain ⟨ab, ao, asp⟩ := ad
  have : asp = none := by
    obtain ⟨x, r, rfl⟩ : ∃ x r, l = x :: r := by
      cases l with
      | nil => cases hl
      | cons x r => exact ⟨x, r, rfl⟩
    obtain ⟨ad, ha, hc⟩ := hb 0 (bv x) rfl
    cases ha
    cases asp with
    | none => rfl
    | some q =>
      exfalso
      have h0 : ((⟨ab, ao, some q⟩ : Addr).add 0) = ⟨ab, ao, some q⟩ := rfl
      rw [h0] at hc
      unfold World.cell? at hc
      split at hc <;> simp at hc
  subst this
  refine calls_of_CW Try.func86 rfl (by simp [Try.ntmps86]) ?_
  rw [Try.ntmps86]
  refine go_TakeTag (k := ?_)
  refine OW_allocA agg_Tag ?_
  intro w1 g1 hb1 hg1 hlt1 hx1
  refine go_TakeTag (k := ?_)
  refine OW_arrP arr_Tag rfl (Nat.le_refl _) ?_
  refine go_TakeTag (k := ?_)
  refine OW_loadA agg_Tag rfl (l.map bv) (by simp [hl]) (Rd.range (hb.ext hx1) rfl) ?_
  refine go_TakeTag (k := ?_)
  refine OW_storeA agg_Tag rfl (l.map bv) rfl (by simp [hl]) hb1 (by simp [tz]) (bv_one' l) ?_
  intro w2 hb2 hg2
  refine go_TakeTag (k := ?_)
  exact bodyE_retc2 rfl agg_Tag rfl (l.map bv) (.bool true) rfl (by simp [hl]) hb2.range ⟨rfl, (Keeps.of_only (S := (· = g1)) hg2 rfl).ext hx1 (fun k hk => by subst hk; exact hg1)⟩
set_option maxHeartbeats 8000000 in
theorem take_tag (w : World) (g : Nat) (S : Nat → Prop) (s : List UInt8 × Int) (h : RR w g S s) (n : Int) (hn : -9223372036854775808 ≤ n ∧ n ≤ 9223372036854775807) (f : FuncId) (fn : Func) (tl : List UInt8) (htl : tl.length = 32)
    (hf : Try.prog.funcs[f]? = some fn) (hnm : (fn.name == "runtime.NumGoroutine") = false) (hbd : fn.body.isNone = false)
    (hc : s.2 = 0 → 0 ≤ n → n ≤ s.1.length → ∀ w1 A, Ext w w1 → Bs w1 A (s.1.take n.toNat) → (s.1.take n.toNat).length = n.toNat → Calls Try.prog f ([Value.slice A n.toNat n.toNat] ++ []).toArray w1 (fun en w' => en = .returned (.tuple #[.agg (tl.map bv).toArray, .bool true]) ∧ Ext w1 w')) :
    Calls Try.prog 85 #[.pointer (some ⟨g, 0, none⟩), .int .i64 n, .func (.func f) #[] #[]] w (fun en w' => ∃ v, en = .returned v ∧ Keeps w w' (· = g) ∧
      ((s.2 ≠ 0 ∧ v = .agg (tz.map bv).toArray ∧ RR w' g S s) ∨ (s.2 = 0 ∧ (n < 0 ∨ s.1.length < n) ∧ v = .agg (tz.map bv).toArray ∧ RR w' g S ([], 40)) ∨
       (s.2 = 0 ∧ 0 ≤ n ∧ n ≤ s.1.length ∧ true = false ∧ v = .agg (tz.map bv).toArray ∧ RR w' g S ([], 40)) ∨ (s.2 = 0 ∧ 0 ≤ n ∧ n ≤ s.1.length ∧ true = true ∧ v = .agg (tl.map bv).toArray ∧ RR w' g S (s.1.drop n.toNat, 0)))) := by
  have hll := h.len
  have hgs : g < w.heap.size := h.bd _ h.in_
  have htz : tz.length = 32 := rfl
  have hm1 : (tz.map bv).length = 32 := by simp [htz]
  have hm2 : (tl.map bv).length = 32 := by simp [htl]
  refine calls_of_CW Try.func85 rfl (by simp [Try.ntmps85]) ?_
  rw [Try.ntmps85]
  refine go_TakeTag (k := ?_)
  refine OW_allocA agg_Tag ?_
  intro wa ga hba hga hlta hxa
  refine go_TakeTag (k := ?_)
  refine OW_allocA agg_Tag ?_
  intro wb gb hbb hgb hltb hxb
  have hba' := hba.ext hxb
  have hne : ga ≠ gb := by omega
  have hxab := hxa.trans' hxb
  have hw0 : w.heap.size ≤ wa.heap.size := hxa.size
  refine go_TakeTag (k := ?_)
  refine OW_callV Try.func88 (by kernel_rfl) rfl (fine_any wb g S s (h.ext hxab)) rfl ?_
  intro w1 hx1
  have hx := hxab.trans' hx1
  have h1 := h.ext hx
  have ba := hba'.ext hx1
  have bb := hbb.ext hx1
  obtain ⟨A, c, hB, hb, hcc, hS⟩ := h1.at_
  have m1 : w1.cell? ⟨g, 1, none⟩ = some (.slice A s.1.length c) := hB.cell 1
  have last : ∀ (w2 : World) (cs : List UInt8) (st : List UInt8 × Int), cs.length = 32 → Keeps w w2 (· = g) → RR w2 g S st → Blk w2 ga 25 (tz.map bv).toArray → ∀ w3, Blk w3 ga 25 (cs.map bv).toArray → w2.grownBy w3 (some ga) → Keeps w w3 (· = g) ∧ RR w3 g S st := by
    intro w2 cs st hcs hk hr hb2 w3 hb3 hg3
    refine ⟨⟨hg3.os.trans hk.os, hg3.tape.trans hk.tape, hg3.output.trans hk.output, Nat.le_trans hk.size hg3.size, fun k hk1 hk2 => (hg3.block k (Nat.lt_of_lt_of_le hk1 hk.size) (fun hh => by injection hh with hh; omega)).trans (hk.block k hk1 hk2)⟩, hr.keeps (Keeps.of_only (S := (· = ga)) hg3 rfl) (fun k hk hh => by have h9 := h.bd k hk; rw [hh] at h9; omega)⟩
  by_cases hs : s.2 = 0
  rotate_left 1
  · rw [decide_eq_false hs]
    refine go_TakeTag (k := ?_)
    refine OW_loadA agg_Tag rfl (tz.map bv) hm1 bb.range ?_
    refine go_TakeTag (k := ?_)
    refine OW_storeA agg_Tag rfl (tz.map bv) rfl hm1 ba (by simp [tz]) (bv_one' tz) ?_
    intro w3 hb3 hg3
    refine go_TakeTag (k := ?_)
    have hl := last w1 tz s rfl (Keeps.of_ext hx _) h1 ba w3 hb3 hg3
    exact bodyE_retc rfl agg_Tag rfl (tz.map bv) hm1 hb3.range ⟨_, rfl, hl.1, .inl ⟨hs, rfl, hl.2⟩⟩
  rw [decide_eq_true hs]
  by_cases hneg : n < 0
  · refine go_TakeTag (k := ?_)
    rw [decide_eq_true hneg]
    refine go_TakeTag (k := ?_)
    refine OW_callC Try.func118 (by kernel_rfl) rfl (rBad_any w1 g S s h1) rfl ?_
    rintro en w3 ⟨rfl, hr, hk⟩
    refine ⟨_, rfl, ?_⟩
    have hk' := (Keeps.of_ext hx (· = g)).trans' hk
    have ba3 := ba.keeps hk (by omega)
    have bb3 := bb.keeps hk (by omega)
    refine go_TakeTag (k := ?_)
    refine OW_loadA agg_Tag rfl (tz.map bv) hm1 bb3.range ?_
    refine go_TakeTag (k := ?_)
    refine OW_storeA agg_Tag rfl (tz.map bv) rfl hm1 ba3 (by simp [tz]) (bv_one' tz) ?_
    intro w4 hb4 hg4
    refine go_TakeTag (k := ?_)
    have hl := last w3 tz _ rfl hk' hr ba3 w4 hb4 hg4
    exact bodyE_retc rfl agg_Tag rfl (tz.map bv) hm1 hb4.range ⟨_, rfl, hl.1, .inr (.inl ⟨hs, .inl hneg, rfl, hl.2⟩)⟩
  by_cases hgt : (s.1.length : Int) < n
  · refine go_TakeTag (k := ?_)
    rw [decide_eq_false hneg]
    refine go_TakeTag (k := ?_)
    rw [decide_eq_true hgt]
    refine go_TakeTag (k := ?_)
    refine OW_callC Try.func118 (by kernel_rfl) rfl (rBad_any w1 g S s h1) rfl ?_
    rintro en w3 ⟨rfl, hr, hk⟩
    refine ⟨_, rfl, ?_⟩
    have hk' := (Keeps.of_ext hx (· = g)).trans' hk
    have ba3 := ba.keeps hk (by omega)
    have bb3 := bb.keeps hk (by omega)
    refine go_TakeTag (k := ?_)
    refine OW_loadA agg_Tag rfl (tz.map bv) hm1 bb3.range ?_
    refine go_TakeTag (k := ?_)
    refine OW_storeA agg_Tag rfl (tz.map bv) rfl hm1 ba3 (by simp [tz]) (bv_one' tz) ?_
    intro w4 hb4 hg4
    refine go_TakeTag (k := ?_)
    have hl := last w3 tz _ rfl hk' hr ba3 w4 hb4 hg4
    exact bodyE_retc rfl agg_Tag rfl (tz.map bv) hm1 hb4.range ⟨_, rfl, hl.1, .inr (.inl ⟨hs, .inr hgt, rfl, hl.2⟩)⟩
  refine go_TakeTag (k := ?_)
  rw [decide_eq_false hneg]
  refine go_TakeTag (k := ?_)
  rw [decide_eq_false hgt]
  refine go_TakeTag (k := ?_)
  have hnN : (n.toNat : Int) = n := Int.toNat_of_nonneg (by omega)
  refine OW_slice (lv := 0) (hv := n) (mv := n) (by with_reducible exact und_bytes) one_u8 rfl rfl ⟨_, rfl⟩ ⟨_, rfl⟩ (fun _ => rfl) (by omega) ?_
  rw [show (0 : Int).toNat = 0 from rfl, Nat.sub_zero]
  have hbt := hb.cut n.toNat 0 n.toNat (by omega)
  rw [List.drop_zero] at hbt
  have hlt : (s.1.take n.toNat).length = n.toNat := by rw [List.length_take]; omega
  refine go_TakeTag (k := ?_)
  refine OW_callF (caps := []) hf hnm hbd rfl (hc hs (by omega) (by omega) w1 _ hx hbt hlt) rfl ?_
  rintro en w2 ⟨rfl, hx2⟩
  refine ⟨_, rfl, ?_⟩
  refine go_TakeTag (k := ?_)
  refine OW_allocA agg_Tag ?_
  intro w3 gc hbc hgc hltc hx3
  refine go_TakeTag (k := ?_)
  refine OW_storeA agg_Tag rfl (tl.map bv) rfl hm2 hbc (by simp [tz]) (bv_one' tl) ?_
  intro w4 hb4 hg4
  have hw1s := hx.size
  have hw2s := hx2.size
  have hx4 : Ext w2 w4 := (Keeps.of_only (S := (· = gc)) hg4 rfl).ext hx3 (fun k hk => by subst hk; exact hgc)
  have hx14 := hx2.trans' hx4
  have hB4 := hB.ext hx14
  have m4 : w4.cell? ⟨g, 1, none⟩ = some (.slice A s.1.length c) := hB4.cell 1
  have h4 := h1.ext hx14
  have ba4 := ba.ext hx14
  refine go_TakeTag (k := ?_)
  refine OW_slice (lv := n) (hv := s.1.length) (mv := c) (by with_reducible exact und_bytes) one_u8 rfl ⟨_, rfl⟩ rfl rfl (fun h => by cases h) (by omega) ?_
  rw [Int.toNat_natCast, Int.toNat_natCast]
  refine go_TakeTag (k := ?_)
  refine OW_storeB one_bytes rfl _ rfl rfl hB4 (by simp) ?_
  intro w5 hB5 hg5
  have hlen : (s.1.drop n.toNat).length = s.1.length - n.toNat := by simp
  have hB5 : Blk w5 g 60 #[.bool true, .slice (cutA A c n.toNat) (s.1.length - n.toNat) (c - n.toNat), .int .i64 s.2] := hB5
  have hk := Keeps.of_only (S := (· = g)) hg5 rfl
  have hgcg : gc ≠ g := by omega
  have bc5 := hb4.keeps hk (fun hh => hgcg hh)
  have ba5 := ba4.keeps hk (by omega)
  have hk5 := (Keeps.of_ext (hx.trans' hx14) (· = g)).trans' hk
  refine go_TakeTag (k := ?_)
  refine OW_loadA agg_Tag rfl (tl.map bv) hm2 bc5.range ?_
  refine go_TakeTag (k := ?_)
  refine OW_storeA agg_Tag rfl (tl.map bv) rfl hm2 ba5 (by simp [tz]) (bv_one' tl) ?_
  intro w6 hb6 hg6
  refine go_TakeTag (k := ?_)
  have hr5 : RR w5 g S (s.1.drop n.toNat, 0) := by
    rw [← hlen, hs] at hB5
    have hbd := (hb.ext hx14).cut c n.toNat (s.1.length - n.toNat) (by omega)
    rw [List.take_of_length_le (by rw [hlen]; exact Nat.le_refl _)] at hbd
    refine ⟨h.in_, ⟨cutA A c n.toNat, c - n.toNat, hB5, hbd.keeps hk (fun ad ha => ?_), by rw [hlen]; omega, fun ad ha => ?_⟩, by rw [hlen]; omega, fun h => absurd rfl h, fun k hk2 => Nat.lt_of_lt_of_le (h4.bd k hk2) hk.size⟩
    · obtain ⟨ad0, ha0, hbk⟩ := cutA_block ha
      rw [hbk]; exact (hS ad0 ha0).2
    · obtain ⟨ad0, ha0, hbk⟩ := cutA_block ha
      rw [hbk]; exact hS ad0 ha0
  have hl := last w5 tl _ htl hk5 hr5 ba5 w6 hb6 hg6
  exact bodyE_retc rfl agg_Tag rfl (tl.map bv) hm2 hb6.range ⟨_, rfl, hl.1, .inr (.inr (.inr ⟨hs, by omega, by omega, rfl, rfl, hl.2⟩))⟩
def tagV (s : List UInt8 × Int) : List UInt8 := if fits s 32 then s.1.take 32 else tz
set_option maxHeartbeats 8000000 in
theorem rTag_any (w : World) (g : Nat) (S : Nat → Prop) (s : List UInt8 × Int) (h : RR w g S s) : Calls Try.prog 38 #[.pointer (some ⟨g, 0, none⟩)] w (RPost w g S (.agg ((tagV s).map bv).toArray) (stepS s 32 true)) := by
  have hlen : (tagV s).length = 32 := by
    unfold tagV
    split
    · rename_i hh
      have := of_decide_eq_true hh
      rw [List.length_take]; omega
    · rfl
  have T := take_tag w g S s h 32 (by omega) _ _ (tagV s) hlen Try.func86 (by kernel_rfl) rfl
    (fun h0 h1 hl w1 A hx hb hln => by
      have ht : s.1.take (32 : Int).toNat = tagV s := by unfold tagV; rw [show fits s 32 = true from decide_eq_true ⟨h0, h1, hl⟩, if_pos rfl]; rfl
      rw [ht] at hb
      exact (cTag_any w1 A _ hb hlen).mono (fun en w' hh => ⟨hh.1, hh.2⟩))
  have hbd := h.bd
  have hgs : g < w.heap.size := h.bd _ h.in_
  refine calls_of_CW Try.func38 rfl (by simp [Try.ntmps38]) ?_
  rw [Try.ntmps38]
  refine go_TakeTag (k := ?_)
  refine OW_allocA agg_Tag ?_
  intro w1 g1 hb1 hg1 hlt1 hx1
  have T := take_tag w1 g S s (h.ext hx1) 32 (by omega) _ _ (tagV s) hlen Try.func86 (by kernel_rfl) rfl
    (fun h0 h1 hl w1 A hx hb hln => by
      have ht : s.1.take (32 : Int).toNat = tagV s := by unfold tagV; rw [show fits s 32 = true from decide_eq_true ⟨h0, h1, hl⟩, if_pos rfl]; rfl
      rw [ht] at hb
      exact (cTag_any w1 A _ hb hlen).mono (fun en w' hh => ⟨hh.1, hh.2⟩))
  refine go_TakeTag (k := ?_)
  refine OW_callC Try.func85 (by kernel_rfl) rfl (T.mono (fun en w' hh => take_sum (v0 := .agg ((tagV s).map bv).toArray) (by
    rw [Bool.and_true]
    cases hf : fits s 32
    · unfold tagV; rw [hf]; rfl
    · rfl) hh)) rfl ?_
  rintro en w3 ⟨rfl, hr, hk⟩
  refine ⟨_, rfl, ?_⟩
  have hb3 := hb1.keeps hk (by omega)
  refine go_TakeTag (k := ?_)
  refine OW_storeA agg_Tag rfl ((tagV s).map bv) rfl (by simp [hlen]) hb3 (by simp [tz]) (bv_one' _) ?_
  intro w4 hb4 hg4
  refine go_TakeTag (k := ?_)
  refine bodyE_retc rfl agg_Tag rfl ((tagV s).map bv) (by simp [hlen]) hb4.range ⟨rfl, hr.keeps (Keeps.of_only (S := (· = g1)) hg4 rfl) (fun k hk2 hh => by have h9 := hbd k hk2; rw [hh] at h9; omega), ?_⟩
  exact ⟨hg4.os.trans (hk.os.trans hx1.os), hg4.tape.trans (hk.tape.trans hx1.tape), hg4.output.trans (hk.output.trans hx1.output), Nat.le_trans hx1.size (Nat.le_trans hk.size hg4.size), fun k hk1 hk2 => (hg4.block k (Nat.lt_of_lt_of_le hk1 (Nat.le_trans hx1.size hk.size)) (fun hh => by injection hh with hh; omega)).trans ((hk.block k (Nat.lt_of_lt_of_le hk1 hx1.size) hk2).trans (hx1.block k hk1))⟩
end Go.Proofs.Ytdpomchhbbopbaa
