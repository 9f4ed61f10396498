/- Walk: the reference 01's Put. -/
import Derived.Test.YthhphmbhlddihaaWords4
namespace Go.Proofs.Ythhphmbhlddihaa
open Go Go.RowKit
set_option linter.unusedVariables false
theorem go_RefPut {A B : Prop} (h : Held B → A := by
  intro hEnd
  repeat (first | refine OW_moveV (.int _ _) rfl ?_ | refine OW_moveV (.slice _ _ _) rfl ?_ | refine OW_moveV (.bool _) rfl ?_ | refine OW_moveV (.pointer _) rfl ?_ | refine OW_moveV (.string _) rfl ?_ | refine OW_moveV (.agg _) rfl ?_ | refine OW_moveV (.tuple _) rfl ?_ | refine OW_nil ?_ | refine thenE_normal ?_ | refine CW_seq ?_ | refine CW_region (by kernel_rfl) ?_ | refine OW_assignV (.int _ _) rfl ?_ | refine OW_assignV (.slice _ _ _) rfl ?_ | refine OW_assignV (.bool _) rfl ?_ | refine OW_assignV (.pointer _) rfl ?_ | refine OW_assignV (.string _) rfl ?_ | refine OW_assignV (.agg _) rfl ?_ | refine OW_assignV (.tuple _) rfl ?_ | refine OW_addI rfl rfl (by omega) ?_ | refine OW_subI rfl rfl (by omega) ?_ | refine OW_mulI rfl rfl (by omega) ?_ | refine OW_lss rfl rfl ?_ | refine OW_extract rfl rfl ?_ | refine OW_gtr rfl rfl ?_ | refine OW_leq rfl rfl ?_ | refine OW_geq rfl rfl ?_ | refine OW_eql rfl rfl ?_ | refine OW_neq rfl rfl ?_ | refine OW_not rfl ?_ | refine OW_pickT rfl _ rfl ?_ | refine OW_pickF rfl (.bool _) rfl ?_ | refine OW_pickB rfl rfl rfl ?_ | refine OW_move ?_ | refine OW_assign ?_ | refine OW_pass rfl ?_ | refine OW_take rfl ?_ | refine OW_lenS (by first | with_reducible exact und_bytes | with_reducible exact und_bytess) rfl ?_ | refine OW_convInt (by first | with_reducible exact und_u8 | with_reducible exact und_u64 | with_reducible exact und_int | with_reducible exact und_u32) (by first | with_reducible exact und_u8 | with_reducible exact und_u64 | with_reducible exact und_int | with_reducible exact und_u32) rfl ?_ | refine OW_add rfl rfl ?_ | refine OW_sub rfl rfl ?_ | refine OW_mul rfl rfl ?_ | refine OW_min2 rfl rfl ?_ | refine OW_max2 rfl rfl ?_ | refine OW_neg rfl ?_ | refine CW_block ?_ | refine CW_condT rfl ?_ | refine CW_condF rfl ?_ | refine CW_exit ?_ | refine CW_ret ?_ | refine CW_skip ?_ | refine LW_seq ?_ | refine LW_regC ?_ | refine LW_condC ?_ | refine LW_regF ?_ | refine LW_condF ?_ | refine FW_seq ?_ | refine FW_region (by kernel_rfl) ?_ | refine FW_block ?_ | refine FW_condT rfl ?_ | refine FW_condF rfl ?_ | refine FW_exit ?_ | refine FW_ret ?_ | refine FW_skip ?_ | refine LW_ret ?_ | refine LW_skip ?_ | refine thenE_exit ?_ | refine thenE_ret ?_ | refine inBlockE_normal ?_ | refine inBlockE_same ?_ | refine inBlockE_ret ?_ | refine inBlockE_ne (by rfl) ?_ | refine OW_eqlB (by with_reducible exact und_bool) rfl rfl ?_ | refine OW_neqB (by with_reducible exact und_bool) rfl rfl ?_ | refine OW_idxS (by with_reducible exact und_bytes) one_u8 rfl rfl _ rfl (by omega) ?_ | refine OW_idxS (by with_reducible exact und_bytess) one_bytes rfl rfl _ rfl (by omega) ?_ | refine OW_load1 (by first | with_reducible exact one_u8 | with_reducible exact one_bytes) rfl _ (by assumption) ?_)
  exact hEnd.out) (k : B) : A := h ⟨k⟩
theorem putL_take_succ {x n k : Nat} (hk : k < n) : (putL x n).take (k + 1) = (putL x n).take k ++ [UInt8.ofNat (x / 256 ^ (n - 1 - k))] := by
  rw [take_succ_get _ _ (by rw [putL_length]; exact hk)]
  congr 2
  have := putL_get (x := x) hk
  rw [List.getElem?_eq_getElem (by rw [putL_length]; exact hk)] at this
  exact Option.some.inj this
set_option maxHeartbeats 8000000 in
theorem refPut_any (w : World) (x : Nat) (n : Int) (nN : Nat) (hnn : n = (nN : Int)) (h8 : nN ≤ 8) (hx : x < 18446744073709551616) :
    Calls Try.prog 98 #[.int .u64 x, .int .i64 n] w (RetBs 5 w (putL x nN)) := by
  subst hnn
  have hlen := putL_length x nN
  refine calls_of_CW Try.func98 rfl (by simp [Try.ntmps98]) ?_
  rw [Try.ntmps98]
  refine go_RefPut (k := ?_)
  refine CW_loop (fun e' w' => ∃ (k : Nat) (A2 : Option Addr) (c2 : Nat), k ≤ nN ∧ e' 0 = .int .u64 x ∧ e' 1 = .int .i64 nN ∧ e' 6 = .int .i64 k ∧ e' 5 = .slice A2 k c2 ∧
      w'.ownsRow w.heap.size 5 1 (.slice A2 k c2) k (((putL x nN).take k).map bv) ∧ Ext w w') (fun e' _ => nN - (intOf (e' 6)).toNat) ?_ ?_
  · exact ⟨0, none, 0, Nat.zero_le _, rfl, rfl, rfl, rfl, World.ownsRow_nil _ _ _ _, Ext.rfl' w⟩
  · rintro e' w' ⟨k, A2, c2, hk, e0, e1, e6, e5, ho, hw⟩
    rw [upd_self e0, upd_self e1, upd_self e6, upd_self e5]
    refine go_RefPut (k := ?_)
    refine CW_cond _ rfl (fun h => ?_) (fun h => ?_)
    · have hlt : k < nN := by simpa using h
      refine go_RefPut (k := ?_)
      refine CW_loop (fun e'' w'' => ∃ j : Nat, k ≤ j ∧ j ≤ nN - 1 ∧ e'' 0 = .int .u64 x ∧ e'' 1 = .int .i64 nN ∧ e'' 6 = .int .i64 k ∧ e'' 5 = .slice A2 k c2 ∧ e'' 7 = .int .u64 (x / 256 ^ (j - k) : Nat) ∧ e'' 8 = .int .i64 j ∧ w'' = w') (fun e'' _ => nN - (intOf (e'' 8)).toNat) ?_ ?_
      · exact ⟨k, Nat.le_refl _, by omega, rfl, rfl, rfl, rfl, by simp; rfl, rfl, rfl⟩
      · rintro e2 w2 ⟨j, hj1, hj2, f0, f1, f6, f5, f7, f8, rfl⟩
        rw [upd_self f0, upd_self f1, upd_self f6, upd_self f5, upd_self f7, upd_self f8]
        have hy : x / 256 ^ (j - k) < 18446744073709551616 := Nat.lt_of_le_of_lt (Nat.div_le_self _ _) hx
        have hs : x / 256 ^ (j - k) / 256 = x / 256 ^ (j + 1 - k) := by rw [show j + 1 - k = j - k + 1 by omega, Nat.pow_succ, Nat.div_div_eq_div_mul]
        refine go_RefPut (k := ?_)
        refine CW_cond _ rfl (fun h => ?_) (fun h => ?_)
        · have hjl : j < nN - 1 := by simp at h; omega
          refine go_RefPut (k := ?_)
          refine OW_quo rfl rfl (by decide) ?_
          rw [quo_u64 _ 256 256 rfl hy, hs]
          refine go_RefPut (k := ?_)
          refine ⟨⟨j + 1, by omega, by omega, rfl, rfl, rfl, rfl, rfl, rfl, rfl⟩, ?_⟩
          show nN - ((j : Int) + 1).toNat < nN - (j : Int).toNat
          omega
        · have hje : j = nN - 1 := by simp at h; omega
          subst hje
          refine go_RefPut (k := ?_)
          refine OW_rem rfl rfl (by decide) ?_
          rw [rem_u32 _ 256 256 rfl]
          refine go_RefPut (k := ?_)
          rw [wrap_u8_lt _ (Nat.mod_lt _ (by decide))]
          have hv : (Value.int .u8 ((x / 256 ^ (nN - 1 - k) % 256 : Nat) : Int)) = bv (UInt8.ofNat (x / 256 ^ (nN - 1 - k))) := by simp [bv]
          refine OW_lit [.int .u8 ((x / 256 ^ (nN - 1 - k) % 256 : Nat) : Int)] und_bytes info_u8 rfl rfl (by simp [Value.oneCell']) (by decide) ?_
          intro w3 g3 hb3 hg3 hx3
          refine go_RefPut (k := ?_)
          refine OW_append und_bytes info_u8 rfl rfl rfl (own_ext ho hx3) hb3.rd (by simp) (by simp [Value.oneCell']) (by unfold maxLen; omega) (by omega) (Nat.le_trans hw.size hx3.size) ?_
          intro w4 A4 c4 ho4 hb4
          refine go_RefPut (k := ?_)
          refine ⟨⟨k + 1, A4, c4, by omega, rfl, rfl, rfl, rfl, ?_, (hw.trans' hx3).trans hb4⟩, ?_⟩
          · rw [putL_take_succ hlt, List.map_append, List.map_cons, List.map_nil, ← hv]
            exact ho4
          · show nN - ((k : Int) + 1).toNat < nN - (k : Int).toNat
            omega
    · have hge : k = nN := by simp at h; omega
      subst hge
      rw [List.take_of_length_le (by omega)] at ho
      refine go_RefPut (k := ?_)
      refine bodyE_ret1 rfl (.slice A2 k c2) rfl ⟨A2, c2, by rw [hlen], ?_, hw⟩
      rw [hlen]
      exact ho
end Go.Proofs.Ythhphmbhlddihaa
