/- Walks: package words. -/
import Derived.Test.YthhphmbhlddihaaWords3
import Derived.Test.YthhphmbhlddihaaAny
namespace Go.Proofs.Ythhphmbhlddihaa
open Go Go.RowKit
set_option linter.unusedVariables false

theorem go_Words4 {A B : Prop} (h : Held B → A := by
  intro hEnd
  repeat (first | refine OW_moveV (.int _ _) rfl ?_ | refine OW_moveV (.slice _ _ _) rfl ?_ | refine OW_moveV (.bool _) rfl ?_ | refine OW_moveV (.pointer _) rfl ?_ | refine OW_moveV (.string _) rfl ?_ | refine OW_moveV (.agg _) rfl ?_ | refine OW_moveV (.tuple _) rfl ?_ | refine OW_nil ?_ | refine thenE_normal ?_ | refine CW_seq ?_ | refine CW_region (by kernel_rfl) ?_ | refine OW_assignV (.int _ _) rfl ?_ | refine OW_assignV (.slice _ _ _) rfl ?_ | refine OW_assignV (.bool _) rfl ?_ | refine OW_assignV (.pointer _) rfl ?_ | refine OW_assignV (.string _) rfl ?_ | refine OW_assignV (.agg _) rfl ?_ | refine OW_assignV (.tuple _) rfl ?_ | refine OW_addI rfl rfl (by omega) ?_ | refine OW_subI rfl rfl (by omega) ?_ | refine OW_mulI rfl rfl (by omega) ?_ | refine OW_lss rfl rfl ?_ | refine OW_extract rfl rfl ?_ | refine OW_gtr rfl rfl ?_ | refine OW_leq rfl rfl ?_ | refine OW_geq rfl rfl ?_ | refine OW_eql rfl rfl ?_ | refine OW_neq rfl rfl ?_ | refine OW_not rfl ?_ | refine OW_pickT rfl _ rfl ?_ | refine OW_pickF rfl (.bool _) rfl ?_ | refine OW_pickB rfl rfl rfl ?_ | refine OW_move ?_ | refine OW_assign ?_ | refine OW_pass rfl ?_ | refine OW_take rfl ?_ | refine OW_lenS (by first | with_reducible exact und_bytes | with_reducible exact und_bytess) rfl ?_ | refine OW_convInt (by first | with_reducible exact und_u8 | with_reducible exact und_u64 | with_reducible exact und_int | with_reducible exact und_u32) (by first | with_reducible exact und_u8 | with_reducible exact und_u64 | with_reducible exact und_int | with_reducible exact und_u32) rfl ?_ | refine OW_add rfl rfl ?_ | refine OW_sub rfl rfl ?_ | refine OW_mul rfl rfl ?_ | refine OW_min2 rfl rfl ?_ | refine OW_max2 rfl rfl ?_ | refine OW_neg rfl ?_ | refine CW_block ?_ | refine CW_condT rfl ?_ | refine CW_condF rfl ?_ | refine CW_exit ?_ | refine CW_ret ?_ | refine CW_skip ?_ | refine LW_seq ?_ | refine LW_regC ?_ | refine LW_condC ?_ | refine LW_regF ?_ | refine LW_condF ?_ | refine FW_seq ?_ | refine FW_region (by kernel_rfl) ?_ | refine FW_block ?_ | refine FW_condT rfl ?_ | refine FW_condF rfl ?_ | refine FW_exit ?_ | refine FW_ret ?_ | refine FW_skip ?_ | refine LW_ret ?_ | refine LW_skip ?_ | refine thenE_exit ?_ | refine thenE_ret ?_ | refine inBlockE_normal ?_ | refine inBlockE_same ?_ | refine inBlockE_ret ?_ | refine inBlockE_ne (by rfl) ?_ | refine OW_eqlB (by with_reducible exact und_bool) rfl rfl ?_ | refine OW_neqB (by with_reducible exact und_bool) rfl rfl ?_ | refine OW_idxS (by with_reducible exact und_bytes) one_u8 rfl rfl _ rfl (by omega) ?_ | refine OW_idxS (by with_reducible exact und_bytess) one_bytes rfl rfl _ rfl (by omega) ?_ | refine OW_load1 (by first | with_reducible exact one_u8 | with_reducible exact one_bytes) rfl _ (by assumption) ?_)
  exact hEnd.out) (k : B) : A := h ⟨k⟩
theorem putL_get {x n i : Nat} (hi : i < n) : (putL x n)[i]? = some (UInt8.ofNat (x / 256 ^ (n - 1 - i))) := by
  unfold putL
  rw [List.getElem?_map, List.getElem?_range hi]
  rfl
set_option maxHeartbeats 8000000 in
theorem put_any (w : World) (x : Nat) (n : Int) (nN : Nat) (hnn : n = (nN : Int)) (h8 : nN ≤ 8) (hx : x < 18446744073709551616) :
    Calls Try.prog 95 #[.int .u64 x, .int .i64 n] w (RetBs 5 w (putL x nN)) := by
  subst hnn
  refine calls_of_CW Try.func95 rfl (by simp [Try.ntmps95]) ?_
  rw [Try.ntmps95]
  refine go_Words4 (k := ?_)
  refine OW_make (n := nN) und_bytes info_u8 rfl rfl rfl rfl rfl (by omega) (by unfold maxLen; omega) ?_
  intro w1 g hb1 hg1 hx1
  refine go_Words4 (k := ?_)
  refine CW_loop (fun e' w' => ∃ (k : Nat) (cs : Array Value), k ≤ nN ∧ e' 0 = .int .u64 x ∧ e' 1 = .int .i64 nN ∧ e' 5 = .slice (some ⟨g, 0, none⟩) nN nN ∧ e' 9 = .int .i64 nN ∧ e' 10 = .int .i64 k ∧
      Blk w' g 5 cs ∧ cs.size = nN ∧ (∀ j, nN - k ≤ j → j < nN → cs[j]? = ((putL x nN).map bv)[j]?) ∧ Ext w w') (fun e' _ => nN - (intOf (e' 10)).toNat) ?_ ?_
  · exact ⟨0, _, Nat.zero_le _, rfl, rfl, rfl, rfl, rfl, hb1, by simp, fun j h1 h2 => by omega, hx1⟩
  · rintro e' w' ⟨k, cs, hk, e0, e1, e5, e9, e10, hb, hsz, hcs, hw⟩
    rw [upd_self e0, upd_self e1, upd_self e5, upd_self e9, upd_self e10]
    refine go_Words4 (k := ?_)
    refine CW_cond _ rfl (fun h => ?_) (fun h => ?_)
    · have hlt : k < nN := by simpa using h
      have hpow : ∀ j, j ≤ 8 → (2 : Int) ^ (8 * j) = ((256 ^ j : Nat) : Int) := fun j hj => by
        rw [Int.natCast_pow, show (2 : Int) ^ (8 * j) = (2 ^ 8) ^ j from Int.pow_mul]; rfl
      refine go_Words4 (k := ?_)
      refine OW_shr rfl rfl (by omega) ((x / 256 ^ k : Nat) : Int) ?_ ?_
      · rw [show min ((8 : Int) * (k : Int)).toNat IntKind.u64.bits = 8 * k by simp only [IntKind.bits]; omega, hpow k (by omega), fdiv_nat]
      refine go_Words4 (k := ?_)
      refine go_Words4 (k := ?_)
      rw [wrap_u8]
      refine OW_idxS und_bytes one_u8 rfl rfl (nN - 1 - k) (by omega) (by omega) ?_
      rw [add0]
      refine OW_storeB one_u8 rfl (.int _ _) rfl rfl hb (by omega) ?_
      intro w2 hb2 ho2
      refine go_Words4 (k := ?_)
      refine ⟨⟨k + 1, _, by omega, rfl, rfl, rfl, rfl, rfl, hb2, by simp [hsz], fun j h1 h2 => ?_, below_only hw ho2 (by omega) hw.size⟩, ?_⟩
      · rw [Array.getElem?_setIfInBounds]
        split
        · rename_i hj
          subst hj
          rw [if_pos (by omega), List.getElem?_map, putL_get h2, Option.map_some, show nN - 1 - (nN - 1 - k) = k by omega]
          simp [bv]
        · exact hcs j (by omega) h2
      · show nN - ((k : Int) + 1).toNat < nN - (k : Int).toNat
        omega
    · have hge : k = nN := by simp at h; omega
      subst hge
      have hl := putL_length x k
      have hall : cs.toList = (putL x k).map bv := by
        apply List.ext_getElem?
        intro j
        by_cases hj : j < k
        · rw [← hcs j (by omega) hj]; simp
        · rw [List.getElem?_eq_none (by simp; omega), List.getElem?_eq_none (by simp; omega)]
      refine go_Words4 (k := ?_)
      refine bodyE_ret1 rfl (.slice (some ⟨g, 0, none⟩) k k) rfl ⟨some ⟨g, 0, none⟩, k, by rw [hl], ?_, hw⟩
      have := hb.own hg1 (by rw [hsz]; unfold maxLen; omega)
      rw [hsz, hall] at this
      rw [hl]
      exact this

set_option maxHeartbeats 8000000 in
theorem put32_any (w : World) (x : Nat) (hx : x < 4294967296) : Calls Try.prog 76 #[.int .u32 x] w (RetBs 5 w (putL x 4)) := by
  refine calls_of_CW Try.func76 rfl (by simp [Try.ntmps76]) ?_
  rw [Try.ntmps76]
  refine go_Words4 (k := ?_)
  rw [wrap_u64_lt _ (by omega)]
  refine OW_callBs Try.func95 (by kernel_rfl) rfl (put_any w x 4 4 rfl (by decide) (by omega)) rfl ?_
  intro w1 A1 c1 h1
  refine go_Words4 (k := ?_)
  exact bodyE_ret1 rfl (.slice A1 (putL x 4).length c1) rfl ⟨A1, c1, rfl, h1⟩
set_option maxHeartbeats 8000000 in
theorem put64_any (w : World) (x : Nat) (hx : x < 18446744073709551616) : Calls Try.prog 75 #[.int .u64 x] w (RetBs 5 w (putL x 8)) := by
  refine calls_of_CW Try.func75 rfl (by simp [Try.ntmps75]) ?_
  rw [Try.ntmps75]
  refine go_Words4 (k := ?_)
  refine OW_callBs Try.func95 (by kernel_rfl) rfl (put_any w x 8 8 rfl (by decide) hx) rfl ?_
  intro w1 A1 c1 h1
  refine go_Words4 (k := ?_)
  exact bodyE_ret1 rfl (.slice A1 (putL x 8).length c1) rfl ⟨A1, c1, rfl, h1⟩
end Go.Proofs.Ythhphmbhlddihaa
