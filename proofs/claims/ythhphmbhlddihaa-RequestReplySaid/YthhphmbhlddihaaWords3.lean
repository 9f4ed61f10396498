/- Walks: the reference 01's numbers. -/
import Derived.Test.YthhphmbhlddihaaWords1
namespace Go.Proofs.Ythhphmbhlddihaa
open Go Go.RowKit
set_option linter.unusedVariables false

theorem go_Words3 {A B : Prop} (h : Held B → A := by
  intro hEnd
  repeat (first | refine OW_moveV (.int _ _) rfl ?_ | refine OW_moveV (.slice _ _ _) rfl ?_ | refine OW_moveV (.bool _) rfl ?_ | refine OW_moveV (.pointer _) rfl ?_ | refine OW_moveV (.string _) rfl ?_ | refine OW_moveV (.agg _) rfl ?_ | refine OW_moveV (.tuple _) rfl ?_ | refine OW_nil ?_ | refine thenE_normal ?_ | refine CW_seq ?_ | refine CW_region (by kernel_rfl) ?_ | refine OW_assignV (.int _ _) rfl ?_ | refine OW_assignV (.slice _ _ _) rfl ?_ | refine OW_assignV (.bool _) rfl ?_ | refine OW_assignV (.pointer _) rfl ?_ | refine OW_assignV (.string _) rfl ?_ | refine OW_assignV (.agg _) rfl ?_ | refine OW_assignV (.tuple _) rfl ?_ | refine OW_addI rfl rfl (by omega) ?_ | refine OW_subI rfl rfl (by omega) ?_ | refine OW_mulI rfl rfl (by omega) ?_ | refine OW_lss rfl rfl ?_ | refine OW_extract rfl rfl ?_ | refine OW_gtr rfl rfl ?_ | refine OW_leq rfl rfl ?_ | refine OW_geq rfl rfl ?_ | refine OW_eql rfl rfl ?_ | refine OW_neq rfl rfl ?_ | refine OW_not rfl ?_ | refine OW_pickT rfl _ rfl ?_ | refine OW_pickF rfl (.bool _) rfl ?_ | refine OW_pickB rfl rfl rfl ?_ | refine OW_move ?_ | refine OW_assign ?_ | refine OW_pass rfl ?_ | refine OW_take rfl ?_ | refine OW_lenS (by first | with_reducible exact und_bytes | with_reducible exact und_bytess) rfl ?_ | refine OW_convInt (by first | with_reducible exact und_u8 | with_reducible exact und_u64 | with_reducible exact und_int | with_reducible exact und_u32) (by first | with_reducible exact und_u8 | with_reducible exact und_u64 | with_reducible exact und_int | with_reducible exact und_u32) rfl ?_ | refine OW_add rfl rfl ?_ | refine OW_sub rfl rfl ?_ | refine OW_mul rfl rfl ?_ | refine OW_min2 rfl rfl ?_ | refine OW_max2 rfl rfl ?_ | refine OW_neg rfl ?_ | refine CW_block ?_ | refine CW_condT rfl ?_ | refine CW_condF rfl ?_ | refine CW_exit ?_ | refine CW_ret ?_ | refine CW_skip ?_ | refine LW_seq ?_ | refine LW_regC ?_ | refine LW_condC ?_ | refine LW_regF ?_ | refine LW_condF ?_ | refine FW_seq ?_ | refine FW_region (by kernel_rfl) ?_ | refine FW_block ?_ | refine FW_condT rfl ?_ | refine FW_condF rfl ?_ | refine FW_exit ?_ | refine FW_ret ?_ | refine FW_skip ?_ | refine LW_ret ?_ | refine LW_skip ?_ | refine thenE_exit ?_ | refine thenE_ret ?_ | refine inBlockE_normal ?_ | refine inBlockE_same ?_ | refine inBlockE_ret ?_ | refine inBlockE_ne (by rfl) ?_ | refine OW_eqlB (by with_reducible exact und_bool) rfl rfl ?_ | refine OW_neqB (by with_reducible exact und_bool) rfl rfl ?_ | refine OW_idxS (by with_reducible exact und_bytes) one_u8 rfl rfl _ rfl (by omega) ?_ | refine OW_idxS (by with_reducible exact und_bytess) one_bytes rfl rfl _ rfl (by omega) ?_ | refine OW_load1 (by first | with_reducible exact one_u8 | with_reducible exact one_bytes) rfl _ (by assumption) ?_)
  exact hEnd.out) (k : B) : A := h ⟨k⟩
/-- n places, noughts coming in. -/
def shrS (x : Nat) (n : Int) : Nat := x / 2 ^ (min n.toNat 32)
set_option maxHeartbeats 8000000 in
theorem refLoad_any (w : World) (A : Option Addr) (b : List UInt8) (c : Nat) (at_ n : Int) (nN : Nat) (hnn : n = (nN : Int)) (h8 : nN ≤ 8) (ha : Bs w A b) (hl : b.length ≤ 1000000) (hat : -9223372036854775808 ≤ at_ ∧ at_ ≤ 9223372036854775807) :
    Calls Try.prog 120 #[.slice A b.length c, .int .i64 at_, .int .i64 n] w (RetV w (.tuple #[.int .u64 (ldV b at_ nN), .bool (ldB b at_ nN)])) := by
  subst hnn
  have hno : ¬ (0 ≤ at_ ∧ at_.toNat + nN ≤ b.length) → ldV b at_ nN = 0 ∧ ldB b at_ nN = false := fun h => by simp [ldV, ldB, ldL, h]
  have hyes : (0 ≤ at_ ∧ at_.toNat + nN ≤ b.length) → ldV b at_ nN = loadL ((b.drop at_.toNat).take nN) ∧ ldB b at_ nN = true := fun h => by simp [ldV, ldB, ldL, h]
  refine calls_of_CW Try.func120 rfl (by simp [Try.ntmps120]) ?_
  rw [Try.ntmps120]
  refine go_Words3 (k := ?_)
  refine OW_split 12 _ rfl (fun h1 => ?_) (fun h1 => ?_)
  · have h1 : at_ < 0 := by simpa using h1
    obtain ⟨r1, r2⟩ := hno (by omega)
    refine go_Words3 (k := ?_)
    exact bodyE_ret2 rfl (.int .u64 0) (.bool false) rfl rfl ⟨by rw [r1, r2]; rfl, Ext.rfl' w⟩
  · have h1 : 0 ≤ at_ := by simp at h1; omega
    refine go_Words3 (k := ?_)
    refine OW_split 18 _ rfl (fun h2 => ?_) (fun h2 => ?_)
    · have h2 : (b.length : Int) < at_ := by simpa using h2
      obtain ⟨r1, r2⟩ := hno (by omega)
      refine go_Words3 (k := ?_)
      exact bodyE_ret2 rfl (.int .u64 0) (.bool false) rfl rfl ⟨by rw [r1, r2]; rfl, Ext.rfl' w⟩
    · have h2 : at_ ≤ (b.length : Int) := by simp at h2; omega
      refine go_Words3 (k := ?_)
      refine CW_cond _ rfl (fun h3 => ?_) (fun h3 => ?_)
      · have h3 : (b.length : Int) - at_ < nN := by simpa using h3
        obtain ⟨r1, r2⟩ := hno (by omega)
        refine go_Words3 (k := ?_)
        exact bodyE_ret2 rfl (.int .u64 0) (.bool false) rfl rfl ⟨by rw [r1, r2]; rfl, Ext.rfl' w⟩
      · have h3 : (nN : Int) ≤ b.length - at_ := by simp at h3; omega
        obtain ⟨r1, r2⟩ := hyes (by omega)
        obtain ⟨p, rfl⟩ := Int.eq_ofNat_of_zero_le h1
        simp only [Int.toNat_natCast] at *
        refine go_Words3 (k := ?_)
        refine CW_loop (fun e' w' => ∃ k : Nat, k ≤ nN ∧ e' 0 = .slice A b.length c ∧ e' 1 = .int .i64 p ∧ e' 2 = .int .i64 nN ∧ e' 8 = .int .u64 (loadL ((b.drop p).take k) : Nat) ∧ e' 9 = .int .i64 ((p : Int) + k) ∧ Ext w w') (fun e' _ => p + nN - (intOf (e' 9)).toNat) ?_ ?_
        · exact ⟨0, Nat.zero_le _, rfl, rfl, rfl, rfl, by simp; rfl, Ext.rfl' w⟩
        · rintro e' w' ⟨k, hk, e0, e1, e2, e8, e9, hw⟩
          rw [upd_self e0, upd_self e1, upd_self e2, upd_self e8, upd_self e9]
          have hlen : ((b.drop p).take k).length = k := by simp; omega
          have hlt64 : loadL ((b.drop p).take k) < 256 ^ k := by have := loadL_lt ((b.drop p).take k); rwa [hlen] at this
          refine go_Words3 (k := ?_)
          refine CW_cond _ rfl (fun h => ?_) (fun h => ?_)
          · have hlt : k < nN := by simp at h; omega
            have hp : p + k < b.length := by omega
            obtain ⟨ad, hA1, hcA⟩ := (ha.ext hw).at_ hp
            subst hA1
            have hpow : (256 : Nat) ^ k ≤ 256 ^ 7 := Nat.pow_le_pow_right (by decide) (by omega)
            have hsn : loadL ((b.drop p).take (k + 1)) = 256 * loadL ((b.drop p).take k) + (b[p + k]'hp).toNat := by
              rw [take_succ_get _ _ (by simp; omega), loadL_snoc]
              simp
            have hbl := (b[p + k]'hp).toNat_lt
            generalize loadL ((b.drop p).take k) = y at *
            have hy : y < 72057594037927936 := Nat.lt_of_lt_of_le hlt64 hpow
            refine go_Words3 (k := ?_)
            rw [show (256 : Int) * (y : Int) = ((256 * y : Nat) : Int) by omega, wrap_u64_lt (256 * y) (by omega), wrap_u64_lt (b[p + k]'hp).toNat (by omega),
              show ((256 * y : Nat) : Int) + ((b[p + k]'hp).toNat : Int) = ((256 * y + (b[p + k]'hp).toNat : Nat) : Int) by omega, wrap_u64_lt _ (by omega), ← hsn]
            refine ⟨⟨k + 1, by omega, rfl, rfl, rfl, rfl, ?_, hw⟩, ?_⟩
            · show Value.int .i64 ((p : Int) + k + 1) = .int .i64 ((p : Int) + ((k + 1 : Nat) : Int))
              congr 1
            · show p + nN - ((p : Int) + k + 1).toNat < p + nN - ((p : Int) + k).toNat
              omega
          · have hge : k = nN := by
              simp at h
              omega
            subst hge
            refine go_Words3 (k := ?_)
            exact bodyE_ret2 rfl (.int .u64 (loadL ((b.drop p).take k) : Nat)) (.bool true) rfl rfl ⟨by rw [r1, r2], hw⟩
end Go.Proofs.Ythhphmbhlddihaa
