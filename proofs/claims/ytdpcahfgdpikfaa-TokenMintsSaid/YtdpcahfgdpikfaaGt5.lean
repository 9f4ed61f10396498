/- Several texts in one, as they stand in wip/src. -/
import Derived.StillTail
import Derived.Test.YtdpcahfgdpikfaaGt2
import Derived.Test.YtdpcahfgdpikfaaGt4
/- Walks: package words, on lists. -/
namespace Go.Proofs.Ytdpcahfgdpikfaa
open Go Go.RowKit
set_option linter.unusedVariables false

theorem go_Words5 {A B : Prop} (h : Held B → A := by
  intro hEnd
  repeat (first | refine OW_moveV (.int _ _) rfl ?_ | refine OW_moveV (.slice _ _ _) rfl ?_ | refine OW_moveV (.bool _) rfl ?_ | refine OW_moveV (.pointer _) rfl ?_ | refine OW_moveV (.string _) rfl ?_ | refine OW_moveV (.agg _) rfl ?_ | refine OW_moveV (.tuple _) rfl ?_ | refine OW_nil ?_ | refine thenE_normal ?_ | refine CW_seq ?_ | refine CW_region (by kernel_rfl) ?_ | refine OW_assignV (.int _ _) rfl ?_ | refine OW_assignV (.slice _ _ _) rfl ?_ | refine OW_assignV (.bool _) rfl ?_ | refine OW_assignV (.pointer _) rfl ?_ | refine OW_assignV (.string _) rfl ?_ | refine OW_assignV (.agg _) rfl ?_ | refine OW_assignV (.tuple _) rfl ?_ | refine OW_addI rfl rfl (by omega) ?_ | refine OW_subI rfl rfl (by omega) ?_ | refine OW_mulI rfl rfl (by omega) ?_ | refine OW_lss rfl rfl ?_ | refine OW_extract rfl rfl ?_ | refine OW_gtr rfl rfl ?_ | refine OW_leq rfl rfl ?_ | refine OW_geq rfl rfl ?_ | refine OW_eql rfl rfl ?_ | refine OW_neq rfl rfl ?_ | refine OW_not rfl ?_ | refine OW_pickT rfl _ rfl ?_ | refine OW_pickF rfl (.bool _) rfl ?_ | refine OW_pickB rfl rfl rfl ?_ | refine OW_move ?_ | refine OW_assign ?_ | refine OW_pass rfl ?_ | refine OW_take rfl ?_ | refine OW_lenS (by first | with_reducible exact und_bytes | with_reducible exact und_bytess) rfl ?_ | refine OW_convInt (by first | with_reducible exact und_u8 | with_reducible exact und_u64 | with_reducible exact und_int | with_reducible exact und_u32) (by first | with_reducible exact und_u8 | with_reducible exact und_u64 | with_reducible exact und_int | with_reducible exact und_u32) rfl ?_ | refine OW_add rfl rfl ?_ | refine OW_sub rfl rfl ?_ | refine OW_mul rfl rfl ?_ | refine OW_min2 rfl rfl ?_ | refine OW_max2 rfl rfl ?_ | refine OW_neg rfl ?_ | refine CW_block ?_ | refine CW_condT rfl ?_ | refine CW_condF rfl ?_ | refine CW_exit ?_ | refine CW_ret ?_ | refine CW_skip ?_ | refine LW_seq ?_ | refine LW_regC ?_ | refine LW_condC ?_ | refine LW_regF ?_ | refine LW_condF ?_ | refine FW_seq ?_ | refine FW_region (by kernel_rfl) ?_ | refine FW_block ?_ | refine FW_condT rfl ?_ | refine FW_condF rfl ?_ | refine FW_exit ?_ | refine FW_ret ?_ | refine FW_skip ?_ | refine LW_ret ?_ | refine LW_skip ?_ | refine thenE_exit ?_ | refine thenE_ret ?_ | refine inBlockE_normal ?_ | refine inBlockE_same ?_ | refine inBlockE_ret ?_ | refine inBlockE_ne (by rfl) ?_ | refine OW_eqlB (by with_reducible exact und_bool) rfl rfl ?_ | refine OW_neqB (by with_reducible exact und_bool) rfl rfl ?_ | refine OW_idxS (by with_reducible exact und_bytes) one_u8 rfl rfl _ rfl (by omega) ?_ | refine OW_idxS (by with_reducible exact und_bytess) one_bytes rfl rfl _ rfl (by omega) ?_ | refine OW_load1 (by first | with_reducible exact one_u8 | with_reducible exact one_bytes) rfl _ (by assumption) ?_)
  exact hEnd.out) (k : B) : A := h ⟨k⟩
theorem od_Words5 {A B : Prop} (h : Held B → A := by
  intro hEnd
  repeat (first
    | refine OD_pass rfl ?_
    | refine OD_take rfl ?_
    | (apply OD_step
       · intro wd hwd
         (first | refine OW_moveV (.int _ _) rfl ?_ | refine OW_moveV (.slice _ _ _) rfl ?_ | refine OW_moveV (.bool _) rfl ?_ | refine OW_moveV (.pointer _) rfl ?_ | refine OW_moveV (.string _) rfl ?_ | refine OW_moveV (.agg _) rfl ?_ | refine OW_moveV (.tuple _) rfl ?_ | refine OW_nil ?_ | refine thenE_normal ?_ | refine CW_seq ?_ | refine CW_region (by kernel_rfl) ?_ | refine OW_assignV (.int _ _) rfl ?_ | refine OW_assignV (.slice _ _ _) rfl ?_ | refine OW_assignV (.bool _) rfl ?_ | refine OW_assignV (.pointer _) rfl ?_ | refine OW_assignV (.string _) rfl ?_ | refine OW_assignV (.agg _) rfl ?_ | refine OW_assignV (.tuple _) rfl ?_ | refine OW_addI rfl rfl (by omega) ?_ | refine OW_subI rfl rfl (by omega) ?_ | refine OW_mulI rfl rfl (by omega) ?_ | refine OW_lss rfl rfl ?_ | refine OW_extract rfl rfl ?_ | refine OW_gtr rfl rfl ?_ | refine OW_leq rfl rfl ?_ | refine OW_geq rfl rfl ?_ | refine OW_eql rfl rfl ?_ | refine OW_neq rfl rfl ?_ | refine OW_not rfl ?_ | refine OW_pickT rfl _ rfl ?_ | refine OW_pickF rfl (.bool _) rfl ?_ | refine OW_pickB rfl rfl rfl ?_ | refine OW_move ?_ | refine OW_assign ?_ | refine OW_pass rfl ?_ | refine OW_take rfl ?_ | refine OW_lenS (by first | with_reducible exact und_bytes | with_reducible exact und_bytess) rfl ?_ | refine OW_convInt (by first | with_reducible exact und_u8 | with_reducible exact und_u64 | with_reducible exact und_int | with_reducible exact und_u32) (by first | with_reducible exact und_u8 | with_reducible exact und_u64 | with_reducible exact und_int | with_reducible exact und_u32) rfl ?_ | refine OW_add rfl rfl ?_ | refine OW_sub rfl rfl ?_ | refine OW_mul rfl rfl ?_ | refine OW_min2 rfl rfl ?_ | refine OW_max2 rfl rfl ?_ | refine OW_neg rfl ?_ | refine CW_block ?_ | refine CW_condT rfl ?_ | refine CW_condF rfl ?_ | refine CW_exit ?_ | refine CW_ret ?_ | refine CW_skip ?_ | refine LW_seq ?_ | refine LW_regC ?_ | refine LW_condC ?_ | refine LW_regF ?_ | refine LW_condF ?_ | refine FW_seq ?_ | refine FW_region (by kernel_rfl) ?_ | refine FW_block ?_ | refine FW_condT rfl ?_ | refine FW_condF rfl ?_ | refine FW_exit ?_ | refine FW_ret ?_ | refine FW_skip ?_ | refine LW_ret ?_ | refine LW_skip ?_ | refine thenE_exit ?_ | refine thenE_ret ?_ | refine inBlockE_normal ?_ | refine inBlockE_same ?_ | refine inBlockE_ret ?_ | refine inBlockE_ne (by rfl) ?_ | refine OW_eqlB (by with_reducible exact und_bool) rfl rfl ?_ | refine OW_neqB (by with_reducible exact und_bool) rfl rfl ?_ | refine OW_idxS (by with_reducible exact und_bytes) one_u8 rfl rfl _ rfl (by omega) ?_ | refine OW_idxS (by with_reducible exact und_bytess) one_bytes rfl rfl _ rfl (by omega) ?_ | refine OW_load1 (by first | with_reducible exact one_u8 | with_reducible exact one_bytes) rfl _ (by assumption) ?_ | refine OW_load1 (by with_reducible exact one_u8) rfl _ (by first | exact hwd.cell' (by assumption) | (subst hwd; assumption)) ?_)
         refine OW_nil ?_
         exact stay_mk _ _ _ _))
  exact hEnd.out) (k : B) : A := h ⟨k⟩
theorem shl8_or (y : Nat) (b : UInt8) (hy : y < 72057594037927936) : bitsK .or .u64 ((256 * y : Nat) : Int) (b.toNat : Int) = ((256 * y + b.toNat : Nat) : Int) := by
  have hb := b.toNat_lt
  rw [or_u64 _ _ (by omega) (by omega)]
  congr 1
  rw [show 256 * y = 2 ^ 8 * y from rfl, Nat.two_pow_add_eq_or_of_lt hb]
set_option maxHeartbeats 8000000 in
theorem load_any (w : World) (A : Option Addr) (b : List UInt8) (c : Nat) (at_ n : Int) (nN : Nat) (hnn : n = (nN : Int)) (h8 : nN ≤ 8) (ha : Bs w A b) (hc : b.length ≤ c) (hl : b.length ≤ 1000000) (hat : -9223372036854775808 ≤ at_ ∧ at_ ≤ 9223372036854775807) :
    Calls Try.prog 107 #[.slice A b.length c, .int .i64 at_, .int .i64 n] w (RetV w (.tuple #[.int .u64 (ldV b at_ nN), .bool (ldB b at_ nN)])) := by
  subst hnn
  have hno : ¬ (0 ≤ at_ ∧ at_.toNat + nN ≤ b.length) → ldV b at_ nN = 0 ∧ ldB b at_ nN = false := fun h => by simp [ldV, ldB, ldL, h]
  have hyes : (0 ≤ at_ ∧ at_.toNat + nN ≤ b.length) → ldV b at_ nN = loadL ((b.drop at_.toNat).take nN) ∧ ldB b at_ nN = true := fun h => by simp [ldV, ldB, ldL, h]
  refine calls_of_CW Try.func107 rfl (by simp [Try.ntmps107]) ?_
  rw [Try.ntmps107]
  refine go_Words5 (k := ?_)
  refine OW_split 13 _ rfl (fun h1 => ?_) (fun h1 => ?_)
  · have h1 : at_ < 0 := by simpa using h1
    obtain ⟨r1, r2⟩ := hno (by omega)
    refine go_Words5 (k := ?_)
    exact bodyE_ret2 rfl (.int .u64 0) (.bool false) rfl rfl ⟨by rw [r1, r2]; rfl, Ext.rfl' w⟩
  · have h1 : 0 ≤ at_ := by simp at h1; omega
    refine go_Words5 (k := ?_)
    refine CW_cond _ rfl (fun h3 => ?_) (fun h3 => ?_)
    · have h3 : (b.length : Int) - nN < at_ := by simpa using h3
      obtain ⟨r1, r2⟩ := hno (by omega)
      refine go_Words5 (k := ?_)
      exact bodyE_ret2 rfl (.int .u64 0) (.bool false) rfl rfl ⟨by rw [r1, r2]; rfl, Ext.rfl' w⟩
    · have h3 : at_ ≤ b.length - nN := by simp at h3; omega
      obtain ⟨r1, r2⟩ := hyes (by omega)
      obtain ⟨p, rfl⟩ := Int.eq_ofNat_of_zero_le h1
      simp only [Int.toNat_natCast] at *
      refine go_Words5 (k := ?_)
      refine OW_sliceBs und_bytes one_u8 ha rfl hc rfl ⟨_, rfl⟩ ⟨_, rfl⟩ p (p + nN) rfl (by omega) (by omega) ?_
      intro A' hA' hlen
      rw [show p + nN - p = nN by omega] at hA' hlen ⊢
      generalize hs : (b.drop p).take nN = s at *
      refine go_Words5 (k := ?_)
      refine CW_loop (fun e' w' => ∃ k : Nat, k ≤ nN ∧ e' 8 = .int .u64 (loadL (s.take k) : Nat) ∧ e' 26 = .slice A' nN (c - p) ∧ e' 27 = .int .i64 nN ∧ e' 28 = .int .i64 k ∧ Ext w w') (fun e' _ => nN - (intOf (e' 28)).toNat) ?_ ?_
      · exact ⟨0, Nat.zero_le _, by simp; rfl, rfl, rfl, rfl, Ext.rfl' w⟩
      · rintro e' w' ⟨k, hk, e8, e26, e27, e28, hw⟩
        rw [upd_self e8, upd_self e26, upd_self e27, upd_self e28]
        have hlt64 : loadL (s.take k) < 256 ^ k := by have := loadL_lt (s.take k); rwa [List.length_take, hlen, Nat.min_eq_left hk] at this
        refine go_Words5 (k := ?_)
        refine CW_cond _ rfl (fun h => ?_) (fun h => ?_)
        · have hlt : k < nN := by simp at h; omega
          obtain ⟨ad, hA1, hcA⟩ := (hA'.ext hw).at_ (show k < s.length by omega)
          subst hA1
          have hpow : (256 : Nat) ^ k ≤ 256 ^ 7 := Nat.pow_le_pow_right (by decide) (by omega)
          have hsn : loadL (s.take (k + 1)) = 256 * loadL (s.take k) + (s[k]'(by omega)).toNat := by
            rw [take_succ_get _ _ (by omega), loadL_snoc]
          generalize loadL (s.take k) = y at *
          have hy : y < 72057594037927936 := Nat.lt_of_lt_of_le hlt64 hpow
          refine go_Words5 (k := ?_)
          refine OW_shl rfl rfl (by decide) ((256 * y : Nat) : Int) ?_ ?_
          · rw [show min ((8 : Int)).toNat IntKind.u64.bits = 8 from rfl, show (y : Int) * 2 ^ 8 = ((256 * y : Nat) : Int) by omega, wrap_u64_lt _ (by omega)]
          refine go_Words5 (k := ?_)
          rw [wrap_u64_lt _ (by have := (s[k]'(by omega)).toNat_lt; omega)]
          refine OW_or rfl rfl _ (shl8_or y _ hy) ?_
          rw [← hsn]
          refine go_Words5 (k := ?_)
          refine ⟨⟨k + 1, by omega, rfl, rfl, rfl, rfl, hw⟩, ?_⟩
          show nN - ((k : Int) + 1).toNat < nN - (k : Int).toNat
          omega
        · have hge : k = nN := by simp at h; omega
          subst hge
          rw [List.take_of_length_le (by omega)]
          refine go_Words5 (k := ?_)
          exact bodyE_ret2 rfl (.int .u64 (loadL s : Nat)) (.bool true) rfl rfl ⟨by rw [r1, r2], hw⟩
theorem ldV_lt (b : List UInt8) (at_ : Int) (n : Nat) : ldV b at_ n < 256 ^ n := by
  unfold ldV ldL
  split
  · rename_i h
    have := loadL_lt ((b.drop at_.toNat).take n)
    rw [List.length_take, List.length_drop, Nat.min_eq_left (by omega)] at this
    exact this
  · simp; exact Nat.pow_pos (by decide)
set_option maxHeartbeats 8000000 in
theorem load64_any (w : World) (A : Option Addr) (b : List UInt8) (c : Nat) (at_ : Int) (ha : Bs w A b) (hc : b.length ≤ c) (hl : b.length ≤ 1000000) (hat : -9223372036854775808 ≤ at_ ∧ at_ ≤ 9223372036854775807) :
    Calls Try.prog 106 #[.slice A b.length c, .int .i64 at_] w (RetV w (.tuple #[.int .u64 (ldV b at_ 8), .bool (ldB b at_ 8)])) := by
  refine calls_of_CW Try.func106 rfl (by simp [Try.ntmps106]) ?_
  rw [Try.ntmps106]
  refine go_Words5 (k := ?_)
  refine OW_callV Try.func107 (by kernel_rfl) rfl (load_any w A b c at_ 8 8 rfl (by decide) ha hc hl hat) rfl ?_
  intro w1 hw1
  refine go_Words5 (k := ?_)
  exact bodyE_ret2 rfl (.int .u64 (ldV b at_ 8 : Nat)) (.bool (ldB b at_ 8)) rfl rfl ⟨rfl, hw1⟩
set_option maxHeartbeats 8000000 in
theorem load32_any (w : World) (A : Option Addr) (b : List UInt8) (c : Nat) (at_ : Int) (ha : Bs w A b) (hc : b.length ≤ c) (hl : b.length ≤ 1000000) (hat : -9223372036854775808 ≤ at_ ∧ at_ ≤ 9223372036854775807) :
    Calls Try.prog 96 #[.slice A b.length c, .int .i64 at_] w (RetV w (.tuple #[.int .u32 (ldV b at_ 4), .bool (ldB b at_ 4)])) := by
  refine calls_of_CW Try.func96 rfl (by simp [Try.ntmps96]) ?_
  rw [Try.ntmps96]
  refine go_Words5 (k := ?_)
  refine OW_callV Try.func107 (by kernel_rfl) rfl (load_any w A b c at_ 4 4 rfl (by decide) ha hc hl hat) rfl ?_
  intro w1 hw1
  refine go_Words5 (k := ?_)
  rw [wrap_u32_lt _ (ldV_lt b at_ 4)]
  exact bodyE_ret2 rfl (.int .u32 (ldV b at_ 4 : Nat)) (.bool (ldB b at_ 4)) rfl rfl ⟨rfl, hw1⟩

set_option maxHeartbeats 8000000 in
theorem cat_any (w : World) (A : Option Addr) (c : Nat) (vs : List BV) (hv : Rd w A (vs.map sv)) (hb : ∀ x ∈ vs, Bs w x.1 x.2.2) (hn : vs.length ≤ 1000000) (hl : (flat vs).length ≤ 1000000) :
    Calls Try.prog 20 #[.slice A vs.length c] w (RetBs 5 w (flat vs)) := by
  refine calls_of_CW Try.func20 rfl (by simp [Try.ntmps20]) ?_
  rw [Try.ntmps20]
  refine go_Words5 (k := ?_)
  refine CW_loop (fun e' w' => ∃ (k : Nat) (A2 : Option Addr) (c2 : Nat), k ≤ vs.length ∧ e' 6 = .slice A vs.length c ∧ e' 7 = .int .i64 vs.length ∧ e' 8 = .int .i64 k ∧ e' 3 = .slice A2 (flat (vs.take k)).length c2 ∧
      w'.ownsRow w.heap.size 5 1 (.slice A2 (flat (vs.take k)).length c2) (flat (vs.take k)).length ((flat (vs.take k)).map bv) ∧ Ext w w') (fun e' _ => vs.length - (intOf (e' 8)).toNat) ?_ ?_
  · exact ⟨0, none, 0, Nat.zero_le _, rfl, rfl, rfl, rfl, World.ownsRow_nil _ _ _ _, Ext.rfl' w⟩
  · rintro e' w' ⟨k, A2, c2, hk, e6, e7, e8, e3, ho, hw⟩
    rw [upd_self e6, upd_self e7, upd_self e8, upd_self e3]
    refine go_Words5 (k := ?_)
    refine CW_cond _ rfl (fun h => ?_) (fun h => ?_)
    · have hlt : k < vs.length := by simpa using h
      obtain ⟨ad, hA1, hcA⟩ := (hv.ext hw).at_ (j := k) (by simpa using hlt)
      subst hA1
      have hf := flat_take_succ hlt
      have hle := flat_le vs (k + 1)
      rw [hf, List.length_append] at hle
      have hbk := (hb vs[k] (List.getElem_mem hlt)).ext hw
      have hcA : w'.cell? (ad.add k) = some (.slice (vs[k]).1 (vs[k]).2.2.length (vs[k]).2.1) := by rw [hcA]; simp [sv]
      generalize vs[k] = x at *
      refine go_Words5 (k := ?_)
      refine OW_append und_bytes info_u8 rfl rfl rfl ho hbk (by simp) (bv_one _) (by unfold maxLen; omega) (by omega) hw.size ?_
      intro w3 A3 c3 ho3 hb3
      refine go_Words5 (k := ?_)
      refine ⟨⟨k + 1, A3, c3, by omega, rfl, rfl, rfl, ?_, ?_, hw.trans hb3⟩, ?_⟩
      · rw [hf, List.length_append]; rfl
      · rw [hf, List.length_append, List.map_append]; exact ho3
      · show vs.length - ((k : Int) + 1).toNat < vs.length - (k : Int).toNat
        omega
    · have hge : k = vs.length := by simp at h; omega
      subst hge
      rw [List.take_length] at ho ⊢
      refine go_Words5 (k := ?_)
      exact bodyE_ret1 rfl (.slice A2 (flat vs).length c2) rfl ⟨A2, c2, rfl, ho, hw⟩

/-- The exclusive or of the first k, the rest of the first list behind. -/
def xorK (a b : List UInt8) (k : Nat) : List UInt8 := (xorL a b).take k ++ (a.take (min a.length b.length)).drop k
theorem xorK_length (a b : List UInt8) (k : Nat) (hk : k ≤ min a.length b.length) : (xorK a b k).length = min a.length b.length := by
  unfold xorK; rw [List.length_append, List.length_take, xorL_length, List.length_drop, List.length_take]; omega
theorem xorK_get {a b : List UInt8} {k : Nat} (ha : k < a.length) (hb : k < b.length) : (xorK a b k)[k]? = some a[k] := by
  unfold xorK
  rw [List.getElem?_append_right (by rw [List.length_take, xorL_length]; omega), List.length_take, xorL_length, List.getElem?_drop, List.getElem?_take, if_pos (by omega), List.getElem?_eq_getElem (by omega)]
  congr 2
  omega
theorem xorK_succ {a b : List UInt8} {k : Nat} (ha : k < a.length) (hb : k < b.length) : (xorK a b k).set k (a[k] ^^^ b[k]) = xorK a b (k + 1) := by
  unfold xorK
  rw [xorL_take_succ ha hb, List.set_append_right _ _ (by rw [List.length_take, xorL_length]; omega)]
  rw [show k - ((xorL a b).take k).length = 0 by rw [List.length_take, xorL_length]; omega]
  rw [List.drop_eq_getElem_cons (show k < (a.take (min a.length b.length)).length by rw [List.length_take]; omega)]
  simp
theorem xorK_all (a b : List UInt8) : xorK a b (min a.length b.length) = xorL a b := by
  unfold xorK
  rw [List.take_of_length_le (by rw [xorL_length]; omega), List.drop_eq_nil_of_le (by rw [List.length_take]; omega), List.append_nil]
set_option maxHeartbeats 8000000 in
theorem xor_any (w : World) (A B : Option Addr) (a b : List UInt8) (c c' : Nat) (ha : Bs w A a) (hb : Bs w B b) (hc : a.length ≤ c) (hl : a.length ≤ 1000000 ∧ b.length ≤ 1000000) :
    Calls Try.prog 68 #[.slice A a.length c, .slice B b.length c'] w (RetBs 5 w (xorL a b)) := by
  obtain ⟨m, hm⟩ : ∃ m, m = min a.length b.length := ⟨_, rfl⟩
  refine calls_of_CW Try.func68 rfl (by simp [Try.ntmps68]) ?_
  rw [Try.ntmps68]
  refine go_Words5 (k := ?_)
  refine OW_sliceBs und_bytes one_u8 ha rfl hc rfl rfl ⟨_, rfl⟩ 0 m rfl (by split <;> omega) (by omega) ?_
  intro A' hA' hlen
  simp only [Nat.sub_zero, List.drop_zero] at hA' hlen ⊢
  refine OW_lit [.slice A' m c] und_bytess info_bytes rfl rfl (by simp [Value.oneCell']) (by decide) ?_
  intro w1 g1 hb1 hg1 hx1
  refine OW_callBs Try.func20 (by kernel_rfl) rfl (cat_any w1 (some ⟨g1, 0, none⟩) 1 [(A', c, a.take m)] (by have := hb1.rd; simpa [sv, hlen] using this) (by simpa using hA'.ext hx1) (by simp) (by simp [flat]; omega)) rfl ?_
  intro w2 A2 c2 h2
  have hfl : flat [((A', c, a.take m) : BV)] = a.take m := by simp [flat]
  rw [hfl] at h2 ⊢
  rw [hlen]
  have ho2 := h2.own
  rw [hlen] at ho2
  have hw2 := hx1.trans' h2.ext
  refine go_Words5 (k := ?_)
  refine CW_loop (fun e' w' => ∃ k : Nat, k ≤ m ∧ e' 1 = .slice B b.length c' ∧ e' 5 = .slice A2 m c2 ∧ e' 17 = .int .i64 m ∧ e' 18 = .int .i64 k ∧
      w'.ownsRow w.heap.size 5 1 (.slice A2 m c2) m ((xorK a b k).map bv) ∧ Ext w w') (fun e' _ => m - (intOf (e' 18)).toNat) ?_ ?_
  · refine ⟨0, Nat.zero_le _, rfl, rfl, rfl, rfl, ?_, hw2⟩
    have : xorK a b 0 = a.take m := by unfold xorK; rw [← hm]; simp
    rw [this]
    exact own_mono ho2 hx1.size
  · rintro e' w' ⟨k, hk, e1, e5, e17, e18, ho, hw⟩
    rw [upd_self e1, upd_self e5, upd_self e17, upd_self e18]
    refine go_Words5 (k := ?_)
    refine CW_cond _ rfl (fun h => ?_) (fun h => ?_)
    · have hlt : k < m := by simpa using h
      have hka : k < a.length := by omega
      have hkb : k < b.length := by omega
      obtain ⟨g, cur, hA2, hg, _⟩ := own_blk ho (by omega)
      subst hA2
      obtain ⟨bd, hB1, hcB⟩ := (hb.ext hw).at_ hkb
      subst hB1
      have hcA : w'.cell? ⟨g, k, none⟩ = some (bv a[k]) := by
        rw [ho.cellAt k (by omega), List.getElem?_map, xorK_get hka hkb]; rfl
      have hcA' : w'.cell? ((⟨g, 0, none⟩ : Addr).add k) = some (bv a[k]) := by rw [add0]; exact hcA
      have hst := ho.stored k (bv (a[k] ^^^ b[k]))
      rw [← List.map_set, xorK_succ hka hkb] at hst
      refine go_Words5 (k := ?_)
      refine CW_tail 10 (by kernel_rfl) (by kernel_rfl) (by kernel_rfl) ?_
      simp only [List.take_succ_cons, List.take_zero, List.drop_succ_cons, List.drop_zero]
      refine od_Words5 (k := ?_)
      apply OD_step
      · intro wd hwd
        refine OW_xor rfl rfl _ (xor_bv _ _) ?_
        refine OW_nil ?_
        exact stay_mk _ _ _ _
      refine od_Words5 (k := ?_)
      refine OD_nil ?_
      refine go_Words5 (k := ?_)
      rw [add0]
      refine OW_store1 one_u8 rfl (bv (a[k] ^^^ b[k])) (bv a[k]) rfl rfl hcA (ho.frozenAt k) ?_
      refine go_Words5 (k := ?_)
      refine ⟨⟨k + 1, by omega, rfl, rfl, rfl, rfl, hst.1, ?_⟩, ?_⟩
      · exact (below_only hw hst.2 hg hw.size).drew
      · show m - ((k : Int) + 1).toNat < m - (k : Int).toNat
        omega
    · have hge : k = m := by simp at h; omega
      subst hge
      have hxl := xorL_length a b
      have hall := xorK_all a b
      rw [← hm] at hall hxl
      rw [hall] at ho
      refine go_Words5 (k := ?_)
      refine bodyE_ret1 rfl (.slice A2 k c2) rfl ⟨A2, c2, by rw [hxl], ?_, hw⟩
      rw [hxl]
      exact ho

/-- All bytes or-ed. -/
def orL (l : List UInt8) : UInt8 := l.foldl (· ||| ·) 0
theorem orL_snoc (l : List UInt8) (b : UInt8) : orL (l ++ [b]) = orL l ||| b := by simp [orL]
theorem or_zero_iff (x y : UInt8) : x ||| y = 0 ↔ x = 0 ∧ y = 0 := UInt8.or_eq_zero_iff
theorem foldl_or (l : List UInt8) : ∀ x, l.foldl (· ||| ·) x = 0 ↔ x = 0 ∧ ∀ b ∈ l, b = 0 := by
  induction l with
  | nil => intro x; simp
  | cons a l ih => intro x; rw [List.foldl_cons, ih, or_zero_iff]; simp [and_assoc]
theorem xor_zero_iff (x y : UInt8) : x ^^^ y = 0 ↔ x = y := UInt8.xor_eq_zero_iff
theorem orL_xor {a b : List UInt8} (hl : a.length = b.length) : (orL (xorL a b) == 0) = (a == b) := by
  have : orL (xorL a b) = 0 ↔ a = b := by
    unfold orL
    rw [foldl_or]
    simp only [true_and]
    constructor
    · intro h
      apply List.ext_getElem hl
      intro i h1 h2
      have := h (a[i] ^^^ b[i]) (by
        unfold xorL
        rw [List.mem_iff_getElem]
        exact ⟨i, by simp; omega, by simp⟩)
      exact (xor_zero_iff _ _).1 this
    · rintro rfl x hx
      unfold xorL at hx
      rw [List.mem_iff_getElem] at hx
      obtain ⟨i, hi, rfl⟩ := hx
      simp only [List.getElem_zipWith]
      exact (xor_zero_iff _ _).2 rfl
  rw [Bool.eq_iff_iff, beq_iff_eq, beq_iff_eq]
  exact this
set_option maxHeartbeats 8000000 in
theorem sameL_any (w : World) (A B : Option Addr) (a b : List UInt8) (c c' : Nat) (ha : Bs w A a) (hb : Bs w B b) (hc : a.length ≤ c) (hl : a.length ≤ 1000000) :
    Calls Try.prog 21 #[.slice A a.length c, .slice B b.length c'] w (RetV w (.bool (a == b))) := by
  refine calls_of_CW Try.func21 rfl (by simp [Try.ntmps21]) ?_
  rw [Try.ntmps21]
  refine go_Words5 (k := ?_)
  refine CW_cond _ rfl (fun hne => ?_) (fun heq => ?_)
  · have hr : (a == b) = false := by
      rw [beq_eq_false_iff_ne]; rintro rfl; simp at hne
    refine go_Words5 (k := ?_)
    exact bodyE_ret1 rfl (.bool false) rfl ⟨by rw [hr], Ext.rfl' w⟩
  · have hlen : a.length = b.length := by simp at heq; omega
    have hl : a.length ≤ 1000000 ∧ b.length ≤ 1000000 := by omega
    refine go_Words5 (k := ?_)
    refine OW_callBs Try.func68 (by kernel_rfl) rfl (xor_any w A B a b c c' ha hb hc hl) rfl ?_
    intro w1 A1 c1 h1
    have hfin := orL_xor hlen
    generalize hx : xorL a b = x at *
    have hxl : x.length ≤ 1000000 := by rw [← hx, xorL_length]; omega
    refine go_Words5 (k := ?_)
    refine CW_loop (fun e' w' => ∃ k : Nat, k ≤ x.length ∧ e' 5 = .int .u8 ((orL (x.take k)).toNat : Nat) ∧ e' 15 = .slice A1 x.length c1 ∧ e' 16 = .int .i64 x.length ∧ e' 17 = .int .i64 k ∧ Ext w w' ∧ Ext w1 w') (fun e' _ => x.length - (intOf (e' 17)).toNat) ?_ ?_
    · exact ⟨0, Nat.zero_le _, rfl, rfl, rfl, rfl, h1.ext, Ext.rfl' w1⟩
    · rintro e' w' ⟨k, hk, e5, e15, e16, e17, hw, hw1⟩
      rw [upd_self e5, upd_self e15, upd_self e16, upd_self e17]
      refine go_Words5 (k := ?_)
      refine CW_cond _ rfl (fun h => ?_) (fun h => ?_)
      · have hlt : k < x.length := by simpa using h
        obtain ⟨ad, hA1, hcA⟩ := (h1.bs.ext hw1).at_ hlt
        subst hA1
        refine go_Words5 (k := ?_)
        refine OW_or rfl rfl _ (or_bv _ _) ?_
        rw [← orL_snoc, ← take_succ_get _ _ hlt]
        refine go_Words5 (k := ?_)
        refine ⟨⟨k + 1, by omega, rfl, rfl, rfl, rfl, hw, hw1⟩, ?_⟩
        show x.length - ((k : Int) + 1).toNat < x.length - (k : Int).toNat
        omega
      · have hge : k = x.length := by simp at h; omega
        subst hge
        rw [List.take_length]
        have hz : (((orL x).toNat : Int) == 0) = (orL x == 0) := by
          rw [Bool.eq_iff_iff, beq_iff_eq, beq_iff_eq]
          constructor
          · intro h; exact UInt8.toNat_inj.1 (by simpa using h)
          · intro h; rw [h]; rfl
        refine go_Words5 (k := ?_)
        rw [hz, hfin]
        exact bodyE_ret1 rfl (.bool (a == b)) rfl ⟨rfl, hw⟩
set_option maxHeartbeats 8000000 in
theorem same_any (w : World) (A B : Option Addr) (a b : List UInt8) (c c' : Nat) (ha : Bs w A a) (hb : Bs w B b) (hc : a.length ≤ c) (hl : a.length ≤ 1000000 ∧ b.length ≤ 1000000) :
    Calls Try.prog 21 #[.slice A a.length c, .slice B b.length c'] w (RetV w (.bool (a == b))) := sameL_any w A B a b c c' ha hb hc hl.1
end Go.Proofs.Ytdpcahfgdpikfaa

/- Regions whose order is drawn, where the operations that act (calls, stores, what makes memory) stand in an order that a tree tells, and all others are quiet: each quiet one yields one value in every world of a class. The walk takes each quiet operation as early as it may come. -/
namespace Go.Proofs.Ytdpcahfgdpikfaa
open Go Go.RowKit
set_option linter.unusedVariables false

inductive Tr
  | done
  | q (i : Nat) (t : Tr)
  | a (i : Nat) (t : Tr)
  | a2 (i : Nat) (t : Tr) (j : Nat) (u : Tr)
  | a3 (i : Nat) (t : Tr) (j : Nat) (u : Tr) (k : Nat) (v : Tr)
def nth : List Oper → Nat → Option Oper
  | [], _ => none
  | o :: _, 0 => some o
  | _ :: l, i + 1 => nth l i
theorem nth_eq : ∀ (l : List Oper) (i : Nat), nth l i = l[i]?
  | [], i => by simp [nth]
  | o :: l, 0 => by simp [nth]
  | o :: l, i + 1 => by simp [nth, nth_eq l i]

/-- Any order that is drawn, in a class of worlds. -/
def OT (P : Program) (l : List Oper) (C : World → Prop) (Q : Exit → (Nat → Value) → World → Prop) : Nat → Array Bool → (Nat → Value) → World → Prop
  | 0, listed, e, w => Region.ready .any l.toArray listed = [] ∧ Q .normal e w
  | f + 1, listed, e, w => (Region.ready .any l.toArray listed = [] → Q .normal e w) ∧ ∀ i ∈ Region.ready .any l.toArray listed, ∀ o, l[i]? = some o →
      if wantedE l.toArray e o then opW P o e w (fun v w' => C w' ∧ OT P l C Q f (listed.setIfInBounds i true) (put e o.dst v) w') else OT P l C Q f (listed.setIfInBounds i true) (put e o.dst undef) w

theorem wpAny_of_OT {P : Program} {l : List Oper} {C : World → Prop} {n : Nat} {Q : Exit → (Nat → Value) → World → Prop} (hd : dstsIn n l = true) : ∀ (f : Nat) (listed : Array Bool) (a : Act) (e : Nat → Value) (w : World),
    St n a e → OT P l C Q f listed e w → wpAny P .any l.toArray (QA n Q) f listed a w
  | 0, listed, a, e, w, hs, h => ⟨h.1, e, hs, h.2⟩
  | f + 1, listed, a, e, w, hs, h => by
    refine ⟨fun h0 => ⟨e, hs, h.1 h0⟩, fun i hi => ?_⟩
    obtain ⟨_, o, ho, _⟩ := mem_ready.1 hi
    have ho' : l[i]? = some o := by simpa using ho
    have hh := h.2 i hi o ho'
    have hdo : ∀ k, o.dst = some k → k < n := fun k hk => by
      unfold dstsIn at hd
      rw [List.all_eq_true] at hd
      have := hd o (List.mem_iff_getElem?.2 ⟨i, ho'⟩)
      rw [hk] at this
      simpa using this
    unfold wpOp
    simp only [ho]
    rw [wanted_eq hs]
    split
    · rename_i hw
      rw [if_pos hw] at hh
      exact .inl (Oper.wp_of_opW hs hh fun v w' hv => wpAny_of_OT hd f _ _ _ _ (hs.put hdo v) hv.2)
    · rename_i hw
      rw [if_neg hw] at hh
      exact wpAny_of_OT hd f _ _ _ _ (hs.put hdo undef) hh

theorem put_comm (e : Nat → Value) {x y : Option Tmp} (v u : Value) (h : ∀ d, x = some d → y ≠ some d) : put (put e x v) y u = put (put e y u) x v := by
  cases x with
  | none => rfl
  | some d =>
    cases y with
    | none => rfl
    | some c =>
      have hne : d ≠ c := fun he => h d rfl (he ▸ rfl)
      funext i
      show upd (upd e d v) c u i = upd (upd e c u) d v i
      by_cases h1 : i = c
      · subst h1
        rw [upd_same, upd_ne _ _ (Ne.symm hne), upd_same]
      · rw [upd_ne _ _ h1]
        by_cases h2 : i = d
        · subst h2; rw [upd_same, upd_same]
        · rw [upd_ne _ _ h2, upd_ne _ _ h2, upd_ne _ _ h1]
theorem upd_comm {a b : Nat} (e : Nat → Value) (v u : Value) (h : Nat.beq a b = false) : upd (upd e a v) b u = upd (upd e b u) a v :=
  put_comm e (x := some a) (y := some b) v u (fun d hd hb => by cases hd; cases hb; rw [Nat.beq_refl] at h; cases h)
theorem ev_put {e : Nat → Value} {dst : Option Tmp} {v : Value} {x : Operand} (h : ∀ d, dst = some d → x ≠ .tmp d) : ev (put e dst v) x = ev e x := by
  cases dst with
  | none => rfl
  | some d =>
    cases x with
    | tmp t =>
      have hne : t ≠ d := fun e => h d rfl (e ▸ rfl)
      exact upd_ne _ _ hne
    | _ => rfl
theorem execOp_putE {ops : Array Oper} (o : Oper) (hs : ∀ cs b, o.op ≠ .select cs b) (e : Nat → Value) (dst : Option Tmp) (v : Value) (h : ∀ d, dst = some d → d ∉ o.looksAt ops) :
    execOp (ev (put e dst v)) o = execOp (ev e) o :=
  execOp_congr o hs fun x hx => ev_put fun d hd hxd => h d hd (by
    subst hxd
    exact List.mem_append_left _ (List.mem_filterMap.2 ⟨.tmp d, by simpa using hx, rfl⟩))
theorem wantedE_put {ops : Array Oper} (o : Oper) (e : Nat → Value) (dst : Option Tmp) (v : Value) (h : ∀ d, dst = some d → d ∉ o.looksAt ops) :
    wantedE ops (put e dst v) o = wantedE ops e o := by
  cases dst with
  | none => rfl
  | some d =>
    unfold wantedE
    cases hg : o.guard with
    | none => rfl
    | some gw =>
      obtain ⟨g, want⟩ := gw
      have hy : yieldsE ops (put e (some d) v) g = yieldsE ops e g := by
        unfold yieldsE
        cases ht : (ops[g]?).bind (·.dst) with
        | none => rfl
        | some t =>
          have hne : t ≠ d := fun e => h d rfl (by subst e; simp [Oper.looksAt, hg, ht])
          show (match upd e d v t with | .bool b => some b | _ => none) = (match e t with | .bool b => some b | _ => none)
          rw [upd_ne _ _ hne]
      simp only [hy]

theorem opW_mono {P : Program} {o : Oper} {e : Nat → Value} {w : World} {K K' : Value → World → Prop} (h : opW P o e w K) (hk : ∀ v w, K v w → K' v w) : opW P o e w K' := by
  unfold opW at *
  generalize (execOp (ev e) o).run P w = r at *
  cases r with
  | ok x w' =>
    cases x <;> simp only [opUpon] at h ⊢
    case value v => exact hk _ _ h
    case skip => exact hk _ _ h
    case enter f args => exact ⟨h.1, h.2.mono fun en w'' ⟨v, he, hv⟩ => ⟨v, he, hk _ _ hv⟩⟩
  | halt x w' => simp only [opUpon] at h

/-- One value in every world of the class. -/
def Quiet (P : Program) (ops : Array Oper) (C : World → Prop) (o : Oper) (v : Value) (e : Nat → Value) : Prop :=
  (wantedE ops e o = true ∧ ∀ w, C w → opW P o e w (fun u w' => u = v ∧ w' = w)) ∨ (wantedE ops e o = false ∧ v = undef)
theorem Quiet.keep {P : Program} {ops : Array Oper} {C : World → Prop} {oi oj : Oper} {v : Value} {e : Nat → Value} (hsi : ∀ cs b, oi.op ≠ .select cs b) (h : Quiet P ops C oi v e) (h3 : ∀ d, oj.dst = some d → d ∉ oi.looksAt ops) (u : Value) : Quiet P ops C oi v (put e oj.dst u) := by
  unfold Quiet opW at *
  rw [execOp_putE oi hsi e oj.dst u h3, wantedE_put oi e oj.dst u h3]
  exact h
theorem OT_first {P : Program} {l : List Oper} {C : World → Prop} {Q : Exit → (Nat → Value) → World → Prop} {i : Nat} {oi : Oper} {v : Value} (hi : l[i]? = some oi)
    (hsel : ∀ (j : Nat) (o : Oper) cs b, l.toArray[j]? = some o → o.op ≠ .select cs b) :
    ∀ (f : Nat) (listed : Array Bool) (e : Nat → Value) (w : World),
      (∀ j oj, l.toArray[j]? = some oj → j ≠ i → listed.getD j true = false → (∀ e ∈ oj.after, Region.binds .any e = true → e.on ≠ i) → oi.apart l.toArray oj = true) →
      i ∈ Region.ready .any l.toArray listed → Quiet P l.toArray C oi v e → C w →
      OT P l C Q f (listed.setIfInBounds i true) (put e oi.dst v) w → OT P l C Q (f + 1) listed e w := by
  intro f
  have doI : ∀ (f : Nat) (listed : Array Bool) (e : Nat → Value) (w : World), Quiet P l.toArray C oi v e → C w → OT P l C Q f (listed.setIfInBounds i true) (put e oi.dst v) w →
      ∀ o, l[i]? = some o → if wantedE l.toArray e o then opW P o e w (fun v w' => C w' ∧ OT P l C Q f (listed.setIfInBounds i true) (put e o.dst v) w') else OT P l C Q f (listed.setIfInBounds i true) (put e o.dst undef) w := by
    intro f listed e w hq hC H o ho
    rw [hi] at ho
    cases ho
    rcases hq with ⟨hw, hr⟩ | ⟨hw, rfl⟩
    · rw [if_pos hw]
      exact opW_mono (hr w hC) fun u w' ⟨hu, hw'⟩ => by subst hu; subst hw'; exact ⟨hC, H⟩
    · rw [hw, if_neg (by simp)]
      exact H
  induction f with
  | zero =>
    intro listed e w hfree hr hq hC H
    refine ⟨fun h => (by rw [h] at hr; cases hr), fun j hj o ho => ?_⟩
    by_cases hji : j = i
    · subst hji; exact doI _ _ _ _ hq hC H o ho
    · have := ready_mono hj hji
      rw [H.1] at this
      cases this
  | succ f ih =>
    intro listed e w hfree hr hq hC H
    refine ⟨fun h => (by rw [h] at hr; cases hr), fun j hj oj hoj => ?_⟩
    by_cases hji : j = i
    · subst hji; exact doI _ _ _ _ hq hC H oj hoj
    · have hjr := ready_mono hj hji
      have h1 := H.2 j hjr oj hoj
      obtain ⟨hjun, oj', hoj', hall⟩ := mem_ready.1 hj
      have hojA : l.toArray[j]? = some oj := by simpa using hoj
      have : oj' = oj := Option.some.inj (hoj'.symm.trans hojA)
      subst this
      have hnot : ∀ e ∈ oj'.after, Region.binds .any e = true → e.on ≠ i := fun e he hb heq => by
        have h1 := hall e he hb
        have h0 := (mem_ready.1 hr).1
        rw [heq] at h1
        rcases Nat.lt_or_ge i listed.size with h' | h'
        · simp [h'] at h0 h1; rw [h0] at h1; cases h1
        · simp [Array.getElem?_eq_none h'] at h1
      have hap := hfree j oj' hoj' hji hjun hnot
      obtain ⟨p1, p2, p3⟩ := Oper.apart_spec hap
      have hsi : ∀ cs b, oi.op ≠ .select cs b := fun cs b => hsel i oi cs b (by simpa using hi)
      have hsj : ∀ cs b, oj'.op ≠ .select cs b := fun cs b => hsel j oj' cs b hoj'
      have hfree' : ∀ k ok, l.toArray[k]? = some ok → k ≠ i → (listed.setIfInBounds j true).getD k true = false →
          (∀ e ∈ ok.after, Region.binds .any e = true → e.on ≠ i) → oi.apart l.toArray ok = true := fun k ok hk hki hun hno => by
        refine hfree k ok hk hki ?_ hno
        by_cases hjk : j = k
        · subst hjk; exact hjun
        · rw [getD_set_ne true hjk] at hun; exact hun
      have step : ∀ (u : Value) (w' : World), C w' → OT P l C Q f ((listed.setIfInBounds i true).setIfInBounds j true) (put (put e oi.dst v) oj'.dst u) w' → OT P l C Q (f + 1) (listed.setIfInBounds j true) (put e oj'.dst u) w' := fun u w' hC' h => by
        refine ih (listed.setIfInBounds j true) _ _ hfree' (ready_mono hr (Ne.symm hji)) (hq.keep hsi p3 u) hC' ?_
        rw [Array.setIfInBounds_comm _ _ hji, ← put_comm e v u p2]
        exact h
      rw [wantedE_put oj' e oi.dst v p1] at h1
      split
      · rename_i hw
        rw [if_pos hw] at h1
        have h1' : opW P oj' e w (fun u w' => C w' ∧ OT P l C Q f ((listed.setIfInBounds i true).setIfInBounds j true) (put (put e oi.dst v) oj'.dst u) w') := by
          unfold opW at h1 ⊢
          rw [execOp_putE oj' hsj e oi.dst v p1] at h1
          exact h1
        exact opW_mono h1' fun u w' hh => ⟨hh.1, step u w' hh.1 hh.2⟩
      · rename_i hw
        rw [if_neg hw] at h1
        exact step undef w hC h1

theorem OT_sub {P : Program} {l : List Oper} {C C' : World → Prop} {Q : Exit → (Nat → Value) → World → Prop} (hs : ∀ u, C' u → C u) : ∀ (f : Nat) (listed : Array Bool) (e : Nat → Value) (w : World), OT P l C' Q f listed e w → OT P l C Q f listed e w
  | 0, _, _, _, h => h
  | f + 1, listed, e, w, h => by
    refine ⟨h.1, fun i hi o ho => ?_⟩
    have hh := h.2 i hi o ho
    split
    · rename_i hw; rw [if_pos hw] at hh; exact opW_mono hh fun v w' hv => ⟨hs _ hv.1, OT_sub hs f _ _ _ hv.2⟩
    · rename_i hw; rw [if_neg hw] at hh; exact OT_sub hs f _ _ _ hh
/-- A walk along a tree; behind what acts the class may be another, smaller one. -/
def OX (fx : Bool) (P : Program) (l : List Oper) : (World → Prop) → (Exit → (Nat → Value) → World → Prop) → Tr → (Nat → Value) → World → Prop
  | _, Q, .done, e, w => Q .normal e w
  | C, Q, .q i t, e, w => ∀ o, nth l i = some o → ∃ v, Quiet P l.toArray C o v e ∧ OX fx P l C Q t (put e o.dst v) w
  | C, Q, .a i t, e, w => ∀ o, nth l i = some o → if wantedE l.toArray e o then opW P o e w (fun v w' => C w' ∧ ∃ C' : World → Prop, (fx = true → C' = C) ∧ (∀ u, C' u → C u) ∧ C' w' ∧ OX fx P l C' Q t (put e o.dst v) w') else OX fx P l C Q t (put e o.dst undef) w
  | C, Q, .a2 i t j u, e, w => (∀ o, nth l i = some o → if wantedE l.toArray e o then opW P o e w (fun v w' => C w' ∧ ∃ C' : World → Prop, (fx = true → C' = C) ∧ (∀ u, C' u → C u) ∧ C' w' ∧ OX fx P l C' Q t (put e o.dst v) w') else OX fx P l C Q t (put e o.dst undef) w) ∧
      (∀ o, nth l j = some o → if wantedE l.toArray e o then opW P o e w (fun v w' => C w' ∧ ∃ C' : World → Prop, (fx = true → C' = C) ∧ (∀ u, C' u → C u) ∧ C' w' ∧ OX fx P l C' Q u (put e o.dst v) w') else OX fx P l C Q u (put e o.dst undef) w)
  | C, Q, .a3 i t j u k v, e, w => (∀ o, nth l i = some o → if wantedE l.toArray e o then opW P o e w (fun x w' => C w' ∧ ∃ C' : World → Prop, (fx = true → C' = C) ∧ (∀ u, C' u → C u) ∧ C' w' ∧ OX fx P l C' Q t (put e o.dst x) w') else OX fx P l C Q t (put e o.dst undef) w) ∧
      (∀ o, nth l j = some o → if wantedE l.toArray e o then opW P o e w (fun x w' => C w' ∧ ∃ C' : World → Prop, (fx = true → C' = C) ∧ (∀ u, C' u → C u) ∧ C' w' ∧ OX fx P l C' Q u (put e o.dst x) w') else OX fx P l C Q u (put e o.dst undef) w) ∧
      (∀ o, nth l k = some o → if wantedE l.toArray e o then opW P o e w (fun x w' => C w' ∧ ∃ C' : World → Prop, (fx = true → C' = C) ∧ (∀ u, C' u → C u) ∧ C' w' ∧ OX fx P l C' Q v (put e o.dst x) w') else OX fx P l C Q v (put e o.dst undef) w)
def Tr.graft : Tr → Tr → Tr
  | .done, s => s
  | .q i t, s => .q i (t.graft s)
  | .a i t, s => .a i (t.graft s)
  | .a2 i t j u, s => .a2 i (t.graft s) j (u.graft s)
  | .a3 i t j u k v, s => .a3 i (t.graft s) j (u.graft s) k (v.graft s)
/-- The tree tells all orders of what acts. -/
def Tr.ok (ops : Array Oper) : Tr → Nat → Array Bool → Bool
  | .done, f, listed => (f == 0) && (Region.ready .any ops listed).isEmpty
  | .q i t, f, listed => (f != 0) && (Region.ready .any ops listed).contains i && Region.free .any ops listed i && t.ok ops (f - 1) (listed.setIfInBounds i true)
  | .a i t, f, listed => (f != 0) && (Region.ready .any ops listed == [i]) && t.ok ops (f - 1) (listed.setIfInBounds i true)
  | .a2 i t j u, f, listed => (f != 0) && (Region.ready .any ops listed == [i, j]) && t.ok ops (f - 1) (listed.setIfInBounds i true) && u.ok ops (f - 1) (listed.setIfInBounds j true)
  | .a3 i t j u k v, f, listed => (f != 0) && (Region.ready .any ops listed == [i, j, k]) && t.ok ops (f - 1) (listed.setIfInBounds i true) && u.ok ops (f - 1) (listed.setIfInBounds j true) && v.ok ops (f - 1) (listed.setIfInBounds k true)
theorem OT_of_OX {fx : Bool} {P : Program} {l : List Oper} {Q : Exit → (Nat → Value) → World → Prop} (hs : Region.noSelect l.toArray = true) : ∀ (t : Tr) (C : World → Prop) (f : Nat) (listed : Array Bool) (e : Nat → Value) (w : World),
    t.ok l.toArray f listed = true → C w → OX fx P l C Q t e w → OT P l C Q f listed e w := by
  intro t
  induction t with
  | done =>
    intro C f listed e w hk hC h
    simp only [Tr.ok, Bool.and_eq_true, beq_iff_eq, List.isEmpty_iff] at hk
    obtain ⟨rfl, hr⟩ := hk
    exact ⟨hr, h⟩
  | q i t ih =>
    intro C f listed e w hk hC h
    simp only [Tr.ok, Bool.and_eq_true, bne_iff_ne] at hk
    obtain ⟨⟨⟨hf, hr⟩, hfree⟩, hk'⟩ := hk
    obtain ⟨f, rfl⟩ : ∃ g, f = g + 1 := ⟨f - 1, by omega⟩
    have hr : i ∈ Region.ready .any l.toArray listed := by simpa using hr
    obtain ⟨_, o, ho, _⟩ := mem_ready.1 hr
    have ho' : l[i]? = some o := by simpa using ho
    obtain ⟨v, hq, hrest⟩ := h o (by rw [nth_eq]; exact ho')
    exact OT_first ho' (Region.noSelect_spec hs) f listed e w (Region.free_spec ho hfree) hr hq hC (ih C f _ _ _ hk' hC hrest)
  | a i t ih =>
    intro C f listed e w hk hC h
    simp only [Tr.ok, Bool.and_eq_true, bne_iff_ne, beq_iff_eq] at hk
    obtain ⟨⟨hf, hr⟩, hk'⟩ := hk
    obtain ⟨f, rfl⟩ : ∃ g, f = g + 1 := ⟨f - 1, by omega⟩
    refine ⟨fun h0 => (by rw [h0] at hr; cases hr), fun j hj o ho => ?_⟩
    rw [hr, List.mem_singleton] at hj
    subst hj
    have hh := h o (by rw [nth_eq]; exact ho)
    split
    · rename_i hw
      rw [if_pos hw] at hh
      exact opW_mono hh fun v w' ⟨hv1, C', _, hs', hC', hv2⟩ => ⟨hv1, OT_sub hs' f _ _ _ (ih C' f _ _ _ hk' hC' hv2)⟩
    · rename_i hw
      rw [if_neg hw] at hh
      exact ih C f _ _ _ hk' hC hh
  | a2 i t j u iht ihu =>
    intro C f listed e w hk hC h
    simp only [Tr.ok, Bool.and_eq_true, bne_iff_ne, beq_iff_eq] at hk
    obtain ⟨⟨⟨hf, hr⟩, hk1⟩, hk2⟩ := hk
    obtain ⟨f, rfl⟩ : ∃ g, f = g + 1 := ⟨f - 1, by omega⟩
    refine ⟨fun h0 => (by rw [h0] at hr; cases hr), fun x hx o ho => ?_⟩
    rw [hr, List.mem_cons, List.mem_singleton] at hx
    rcases hx with rfl | rfl
    · have hh := h.1 o (by rw [nth_eq]; exact ho)
      split
      · rename_i hw
        rw [if_pos hw] at hh
        exact opW_mono hh fun v w' ⟨hv1, C', _, hs', hC', hv2⟩ => ⟨hv1, OT_sub hs' f _ _ _ (iht C' f _ _ _ hk1 hC' hv2)⟩
      · rename_i hw
        rw [if_neg hw] at hh
        exact iht C f _ _ _ hk1 hC hh
    · have hh := h.2 o (by rw [nth_eq]; exact ho)
      split
      · rename_i hw
        rw [if_pos hw] at hh
        exact opW_mono hh fun v w' ⟨hv1, C', _, hs', hC', hv2⟩ => ⟨hv1, OT_sub hs' f _ _ _ (ihu C' f _ _ _ hk2 hC' hv2)⟩
      · rename_i hw
        rw [if_neg hw] at hh
        exact ihu C f _ _ _ hk2 hC hh
  | a3 i t j u k v iht ihu ihv =>
    intro C f listed e w hk hC h
    simp only [Tr.ok, Bool.and_eq_true, bne_iff_ne, beq_iff_eq] at hk
    obtain ⟨⟨⟨⟨hf, hr⟩, hk1⟩, hk2⟩, hk3⟩ := hk
    obtain ⟨f, rfl⟩ : ∃ g, f = g + 1 := ⟨f - 1, by omega⟩
    refine ⟨fun h0 => (by rw [h0] at hr; cases hr), fun x hx o ho => ?_⟩
    rw [hr, List.mem_cons, List.mem_cons, List.mem_singleton] at hx
    rcases hx with rfl | rfl | rfl
    · have hh := h.1 o (by rw [nth_eq]; exact ho)
      split
      · rename_i hw
        rw [if_pos hw] at hh
        exact opW_mono hh fun v w' ⟨hv1, C', _, hs', hC', hv2⟩ => ⟨hv1, OT_sub hs' f _ _ _ (iht C' f _ _ _ hk1 hC' hv2)⟩
      · rename_i hw
        rw [if_neg hw] at hh
        exact iht C f _ _ _ hk1 hC hh
    · have hh := h.2.1 o (by rw [nth_eq]; exact ho)
      split
      · rename_i hw
        rw [if_pos hw] at hh
        exact opW_mono hh fun v w' ⟨hv1, C', _, hs', hC', hv2⟩ => ⟨hv1, OT_sub hs' f _ _ _ (ihu C' f _ _ _ hk2 hC' hv2)⟩
      · rename_i hw
        rw [if_neg hw] at hh
        exact ihu C f _ _ _ hk2 hC hh
    · have hh := h.2.2 o (by rw [nth_eq]; exact ho)
      split
      · rename_i hw
        rw [if_pos hw] at hh
        exact opW_mono hh fun v w' ⟨hv1, C', _, hs', hC', hv2⟩ => ⟨hv1, OT_sub hs' f _ _ _ (ihv C' f _ _ _ hk3 hC' hv2)⟩
      · rename_i hw
        rw [if_neg hw] at hh
        exact ihv C f _ _ _ hk3 hC hh

section
variable {P : Program} {n : Nat} {Q : Exit → (Nat → Value) → World → Prop} {e : Nat → Value} {w : World}
theorem CW_tree {id : Nat} {l : List Oper} (t : Tr) (C : World → Prop) (hm : P.follows .mixedOrders = true) (hd : dstsIn n l = true)
    (hk : (Region.noSelect l.toArray && t.ok l.toArray l.length (Array.replicate l.length false)) = true) (hC : ∀ w', Ext w w' → C w') (h : ∀ w', Ext w w' → C w' → OX false P l C Q t e w') : CW P n (.region id l.toArray true) Q e w := by
  unfold CW
  intro a hs
  refine wp_region_any hm ?_
  rw [Bool.and_eq_true] at hk
  have := wpAny_of_OT hd l.length (Array.replicate l.length false) a e w.drew hs (OT_of_OX hk.1 t C l.length (Array.replicate l.length false) e w.drew hk.2 (hC _ (Ext.drew' w)) (h _ (Ext.drew' w) (hC _ (Ext.drew' w))))
  simpa using this
end
section
variable {fx : Bool} {P : Program} {l : List Oper} {C : World → Prop} {Q : Exit → (Nat → Value) → World → Prop} {e : Nat → Value} {w : World} {d : Tmp} {op : Op} {ty : TypeId} {pos : String} {aft : Array Edge}
theorem OX_done (h : Q .normal e w) : OX fx P l C Q .done e w := h
/-- A quiet operation, by a walk of it alone. -/
theorem OX_q {i : Nat} {t : Tr} (v : Value) (ho : nth l i = some ⟨some d, op, ty, pos, aft, none⟩) (h1 : ∀ w, C w → OW P l.toArray (stay e d v w) [⟨some d, op, ty, pos, aft, none⟩] e w) (h : OX fx P l C Q t (upd e d v) w) : OX fx P l C Q (.q i t) e w := by
  unfold OX
  intro o ho'
  rw [ho] at ho'
  cases ho'
  refine ⟨v, .inl ⟨rfl, fun w hw => ?_⟩, h⟩
  have hh := h1 w hw
  unfold OW at hh
  rw [if_pos (by rfl)] at hh
  have hinj : ∀ u, upd e d u = upd e d v → u = v := fun u hu => by
    have := congrFun hu d
    rwa [upd_same, upd_same] at this
  exact opW_mono hh fun u w' hx => by unfold OW stay at hx; exact ⟨hinj _ hx.2.1, hx.2.2⟩
theorem OX_qpass {i : Nat} {t : Tr} {dst : Option Tmp} {g : Nat × Bool} (ho : nth l i = some ⟨dst, op, ty, pos, aft, some g⟩) (hw : wantedE l.toArray e ⟨dst, op, ty, pos, aft, some g⟩ = false) (h : OX fx P l C Q t (put e dst undef) w) : OX fx P l C Q (.q i t) e w := by
  unfold OX
  intro o ho'
  rw [ho] at ho'
  cases ho'
  exact ⟨undef, .inr ⟨hw, rfl⟩, h⟩
theorem OX_qtake {i : Nat} {t : Tr} {g : Nat × Bool} (v : Value) (ho : nth l i = some ⟨some d, op, ty, pos, aft, some g⟩) (hw : wantedE l.toArray e ⟨some d, op, ty, pos, aft, some g⟩ = true)
    (h1 : ∀ w, C w → OW P l.toArray (stay e d v w) [⟨some d, op, ty, pos, aft, none⟩] e w) (h : OX fx P l C Q t (upd e d v) w) : OX fx P l C Q (.q i t) e w := by
  unfold OX
  intro o ho'
  rw [ho] at ho'
  cases ho'
  refine ⟨v, .inl ⟨hw, fun w hw => ?_⟩, h⟩
  have hh := h1 w hw
  unfold OW at hh
  rw [if_pos (by rfl)] at hh
  have hinj : ∀ u, upd e d u = upd e d v → u = v := fun u hu => by
    have := congrFun hu d
    rwa [upd_same, upd_same] at this
  have hh2 : opW P ⟨some d, op, ty, pos, aft, some g⟩ e w (fun u w' => OW P l.toArray (stay e d v w) [] (upd e d u) w') := by unfold opW at hh ⊢; exact hh
  exact opW_mono hh2 fun u w' hx => by unfold OW stay at hx; exact ⟨hinj _ hx.2.1, hx.2.2⟩
/-- What an acting operation is to come to. -/
def goOn (fx : Bool) (P : Program) (l : List Oper) (C : World → Prop) (Q : Exit → (Nat → Value) → World → Prop) (t : Tr) : Exit → (Nat → Value) → World → Prop := fun x e w => x = .normal ∧ C w ∧ ∃ C' : World → Prop, (fx = true → C' = C) ∧ (∀ u, C' u → C u) ∧ C' w ∧ OX fx P l C' Q t e w
theorem goOn_mk {t : Tr} (hC : C w) (h : OX fx P l C Q t e w) : goOn fx P l C Q t .normal e w := ⟨rfl, hC, C, fun _ => rfl, fun _ h => h, hC, h⟩
/-- .. and from here on in a smaller class. -/
theorem goOn_sub {t : Tr} (C' : World → Prop) (hs : ∀ u, C' u → C u) (hC : C' w) (h : OX false P l C' Q t e w) : goOn false P l C Q t .normal e w := ⟨rfl, hs _ hC, C', (fun h => by cases h), hs, hC, h⟩
theorem act_of {i : Nat} {t : Tr} {dst : Option Tmp} (ho : nth l i = some ⟨dst, op, ty, pos, aft, none⟩) (h : OW P l.toArray (goOn fx P l C Q t) [⟨dst, op, ty, pos, aft, none⟩] e w) :
    ∀ o, nth l i = some o → if wantedE l.toArray e o then opW P o e w (fun v w' => C w' ∧ ∃ C' : World → Prop, (fx = true → C' = C) ∧ (∀ u, C' u → C u) ∧ C' w' ∧ OX fx P l C' Q t (put e o.dst v) w') else OX fx P l C Q t (put e o.dst undef) w := by
  intro o ho'
  rw [ho] at ho'
  cases ho'
  rw [if_pos (by rfl)]
  unfold OW at h
  rw [if_pos (by rfl)] at h
  exact opW_mono h fun v w' hx => by unfold OW goOn at hx; exact hx.2
theorem act_take {i : Nat} {t : Tr} {dst : Option Tmp} {g : Nat × Bool} (ho : nth l i = some ⟨dst, op, ty, pos, aft, some g⟩) (hw : wantedE l.toArray e ⟨dst, op, ty, pos, aft, some g⟩ = true) (h : OW P l.toArray (goOn fx P l C Q t) [⟨dst, op, ty, pos, aft, none⟩] e w) :
    ∀ o, nth l i = some o → if wantedE l.toArray e o then opW P o e w (fun v w' => C w' ∧ ∃ C' : World → Prop, (fx = true → C' = C) ∧ (∀ u, C' u → C u) ∧ C' w' ∧ OX fx P l C' Q t (put e o.dst v) w') else OX fx P l C Q t (put e o.dst undef) w := by
  intro o ho'
  rw [ho] at ho'
  cases ho'
  rw [if_pos hw]
  unfold OW at h
  rw [if_pos (by rfl)] at h
  have h2 : opW P ⟨dst, op, ty, pos, aft, some g⟩ e w (fun v w' => OW P l.toArray (goOn fx P l C Q t) [] (put e dst v) w') := by unfold opW at h ⊢; exact h
  exact opW_mono h2 fun v w' hx => by unfold OW goOn at hx; exact hx.2
theorem act_pass {i : Nat} {t : Tr} {dst : Option Tmp} {g : Nat × Bool} (ho : nth l i = some ⟨dst, op, ty, pos, aft, some g⟩) (hw : wantedE l.toArray e ⟨dst, op, ty, pos, aft, some g⟩ = false) (h : OX fx P l C Q t (put e dst undef) w) :
    ∀ o, nth l i = some o → if wantedE l.toArray e o then opW P o e w (fun v w' => C w' ∧ ∃ C' : World → Prop, (fx = true → C' = C) ∧ (∀ u, C' u → C u) ∧ C' w' ∧ OX fx P l C' Q t (put e o.dst v) w') else OX fx P l C Q t (put e o.dst undef) w := by
  intro o ho'
  rw [ho] at ho'
  cases ho'
  rw [if_neg (by rw [hw]; simp)]
  exact h
theorem OX_a {i : Nat} {t : Tr} (h : ∀ o, nth l i = some o → if wantedE l.toArray e o then opW P o e w (fun v w' => C w' ∧ ∃ C' : World → Prop, (fx = true → C' = C) ∧ (∀ u, C' u → C u) ∧ C' w' ∧ OX fx P l C' Q t (put e o.dst v) w') else OX fx P l C Q t (put e o.dst undef) w) : OX fx P l C Q (.a i t) e w := h
theorem OX_a2 {i j : Nat} {t u : Tr} (h : ∀ o, nth l i = some o → if wantedE l.toArray e o then opW P o e w (fun v w' => C w' ∧ ∃ C' : World → Prop, (fx = true → C' = C) ∧ (∀ u, C' u → C u) ∧ C' w' ∧ OX fx P l C' Q t (put e o.dst v) w') else OX fx P l C Q t (put e o.dst undef) w)
    (h2 : ∀ o, nth l j = some o → if wantedE l.toArray e o then opW P o e w (fun v w' => C w' ∧ ∃ C' : World → Prop, (fx = true → C' = C) ∧ (∀ u, C' u → C u) ∧ C' w' ∧ OX fx P l C' Q u (put e o.dst v) w') else OX fx P l C Q u (put e o.dst undef) w) : OX fx P l C Q (.a2 i t j u) e w := ⟨h, h2⟩
/-- A test of the region, in both ways. -/
theorem OX_split {t : Tr} (s : Nat) (b : Bool) (hs : e s = .bool b) (ht : b = true → OX fx P l C Q t (upd e s (.bool true)) w) (hf : b = false → OX fx P l C Q t (upd e s (.bool false)) w) : OX fx P l C Q t e w := by
  cases b with
  | true => rw [upd_self hs]; exact ht rfl
  | false => rw [upd_self hs]; exact hf rfl
end
section
variable {fx : Bool} {P : Program} {l : List Oper} {C : World → Prop} {Q : Exit → (Nat → Value) → World → Prop}
theorem OX_cutT (t : Tr) (s : Tr) (J : (Nat → Value) → World → Prop) (hJ : ∀ e w, C w → J e w → OX fx P l C Q s e w) : ∀ {e : Nat → Value} {w : World}, C w → OX true P l C (fun _ e w => J e w) t e w → OX fx P l C Q (t.graft s) e w := by
  have act : ∀ {o : Oper} {e : Nat → Value} {w : World} {t' : Tr}, (∀ {e : Nat → Value} {w : World}, C w → OX true P l C (fun _ e w => J e w) t' e w → OX fx P l C Q (t'.graft s) e w) → C w →
      (if wantedE l.toArray e o then opW P o e w (fun v w' => C w' ∧ ∃ C' : World → Prop, (true = true → C' = C) ∧ (∀ u, C' u → C u) ∧ C' w' ∧ OX true P l C' (fun _ e w => J e w) t' (put e o.dst v) w') else OX true P l C (fun _ e w => J e w) t' (put e o.dst undef) w) →
      (if wantedE l.toArray e o then opW P o e w (fun v w' => C w' ∧ ∃ C' : World → Prop, (fx = true → C' = C) ∧ (∀ u, C' u → C u) ∧ C' w' ∧ OX fx P l C' Q (t'.graft s) (put e o.dst v) w') else OX fx P l C Q (t'.graft s) (put e o.dst undef) w) := by
    intro o e w t' ih hC hh
    split
    · rename_i hw
      rw [if_pos hw] at hh
      exact opW_mono hh fun v w' ⟨hv1, C', he, _, _, hv2⟩ => by
        have := he rfl
        subst this
        exact ⟨hv1, C', fun _ => rfl, fun _ h => h, hv1, ih hv1 hv2⟩
    · rename_i hw
      rw [if_neg hw] at hh
      exact ih hC hh
  induction t with
  | done => intro e w hC h; exact hJ e w hC h
  | q i t ih =>
    intro e w hC h o ho
    obtain ⟨v, h1, h2⟩ := h o ho
    exact ⟨v, h1, ih hC h2⟩
  | a i t ih => intro e w hC h o ho; exact act (t' := t) ih hC (h o ho)
  | a2 i t j u ih1 ih2 => intro e w hC h; exact ⟨fun o ho => act (t' := t) ih1 hC (h.1 o ho), fun o ho => act (t' := u) ih2 hC (h.2 o ho)⟩
  | a3 i t j u k v ih1 ih2 ih3 => intro e w hC h; exact ⟨fun o ho => act (t' := t) ih1 hC (h.1 o ho), fun o ho => act (t' := u) ih2 hC (h.2.1 o ho), fun o ho => act (t' := v) ih3 hC (h.2.2 o ho)⟩
theorem OX_cutE {t s : Tr} (J : (Nat → Value) → (Nat → Value) → World → Prop) {e : Nat → Value} {w : World} (hC : C w) (h : OX true P l C (fun _ e' w => J e e' w) t e w) (hJ : ∀ e' w', C w' → J e e' w' → OX fx P l C Q s e' w') : OX fx P l C Q (t.graft s) e w :=
  OX_cutT t s (J e) hJ hC h
end
attribute [irreducible] OX goOn
end Go.Proofs.Ytdpcahfgdpikfaa

/- Where ways meet again, whatever stands behind. No program in sight. -/
namespace Go.Proofs.Ytdpcahfgdpikfaa
open Go Go.RowKit
/-- It ends in its normal way, and so. -/
def nrm (J : (Nat → Value) → World → Prop) : Exit → (Nat → Value) → World → Prop := fun x e w => x = .normal ∧ J e w
theorem CW_meet {P : Program} {n : Nat} {c : Code} {Q : Exit → (Nat → Value) → World → Prop} {e : Nat → Value} {w : World} (J : (Nat → Value) → World → Prop) (h : CW P n c (nrm J) e w) (hk : ∀ e w, J e w → Q .normal e w) : CW P n c Q e w :=
  h.mono fun x e w ⟨hx, hJ⟩ => by subst hx; exact hk _ _ hJ
/-- The same around a block's inside. -/
theorem CW_meetB {P : Program} {n id : Nat} {c : Code} {Q : Exit → (Nat → Value) → World → Prop} {e : Nat → Value} {w : World} (J : (Nat → Value) → World → Prop) (h : CW P n c (inBlockE id (nrm J)) e w) (hk : ∀ e w, J e w → Q .normal e w) : CW P n c (inBlockE id Q) e w :=
  h.mono fun x e w hx => by
    cases x with
    | normal => unfold inBlockE at hx ⊢; exact hk _ _ hx.2
    | exit id' =>
      unfold inBlockE at hx ⊢
      simp only at hx ⊢
      split
      · rename_i hh; rw [if_pos hh] at hx; exact hk _ _ hx.2
      · rename_i hh; rw [if_neg hh] at hx; cases hx.1
    | ret => unfold inBlockE at hx; cases hx.1
    | goto t => unfold inBlockE at hx; cases hx.1
    | panic ch => unfold inBlockE at hx; cases hx.1
    | outgrown => unfold inBlockE at hx; cases hx.1
theorem OW.mono {P : Program} {ops : Array Oper} {Q Q' : Exit → (Nat → Value) → World → Prop} : ∀ (l : List Oper) {e : Nat → Value} {w : World}, OW P ops Q l e w → (∀ e w, Q .normal e w → Q' .normal e w) → OW P ops Q' l e w
  | [], e, w, h, hq => by unfold OW at h ⊢; exact hq _ _ h
  | o :: l, e, w, h, hq => by
    unfold OW at h ⊢
    split
    · rename_i hw
      rw [if_pos hw] at h
      exact opW_mono h fun v w' hv => OW.mono l hv hq
    · rename_i hw
      rw [if_neg hw] at h
      exact OW.mono l h hq
/-- Where the ways of one region meet again. -/
theorem OW_meet {P : Program} {ops : Array Oper} {Q : Exit → (Nat → Value) → World → Prop} {l : List Oper} {e : Nat → Value} {w : World} (J : (Nat → Value) → World → Prop) (h : OW P ops (nrm J) l e w) (hk : ∀ e w, J e w → Q .normal e w) : OW P ops Q l e w :=
  OW.mono l h fun e w ⟨_, hJ⟩ => hk e w hJ
end Go.Proofs.Ytdpcahfgdpikfaa
