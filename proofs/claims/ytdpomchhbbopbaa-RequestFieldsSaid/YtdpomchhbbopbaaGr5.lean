/- Several texts in one, as they stand in wip/src. -/
import Derived.Test.YtdpomchhbbopbaaGr2
import Derived.Test.YtdpomchhbbopbaaGr3
import Derived.Test.YtdpomchhbbopbaaGr4
/- Walks: package words, on lists. -/
namespace Go.Proofs.Ytdpomchhbbopbaa
open Go Go.RowKit
set_option linter.unusedVariables false

theorem go_Words5 {A B : Prop} (h : Held B → A := by
  intro hEnd
  repeat (first | refine OW_moveV (.int _ _) rfl ?_ | refine OW_moveV (.slice _ _ _) rfl ?_ | refine OW_moveV (.bool _) rfl ?_ | refine OW_moveV (.pointer _) rfl ?_ | refine OW_moveV (.string _) rfl ?_ | refine OW_moveV (.agg _) rfl ?_ | refine OW_moveV (.tuple _) rfl ?_ | refine OW_nil ?_ | refine thenE_normal ?_ | refine CW_seq ?_ | refine CW_region (by kernel_rfl) ?_ | refine OW_assignV (.int _ _) rfl ?_ | refine OW_assignV (.slice _ _ _) rfl ?_ | refine OW_assignV (.bool _) rfl ?_ | refine OW_assignV (.pointer _) rfl ?_ | refine OW_assignV (.string _) rfl ?_ | refine OW_assignV (.agg _) rfl ?_ | refine OW_assignV (.tuple _) rfl ?_ | refine OW_addI rfl rfl (by omega) ?_ | refine OW_subI rfl rfl (by omega) ?_ | refine OW_mulI rfl rfl (by omega) ?_ | refine OW_lss rfl rfl ?_ | refine OW_extract rfl rfl ?_ | refine OW_gtr rfl rfl ?_ | refine OW_leq rfl rfl ?_ | refine OW_geq rfl rfl ?_ | refine OW_eql rfl rfl ?_ | refine OW_neq rfl rfl ?_ | refine OW_not rfl ?_ | refine OW_pickT rfl _ rfl ?_ | refine OW_pickF rfl (.bool _) rfl ?_ | refine OW_pickB rfl rfl rfl ?_ | refine OW_move ?_ | refine OW_assign ?_ | refine OW_pass rfl ?_ | refine OW_take rfl ?_ | refine OW_lenS (by first | with_reducible exact und_bytes | with_reducible exact und_bytess) rfl ?_ | refine OW_convInt (by first | with_reducible exact und_u8 | with_reducible exact und_u64 | with_reducible exact und_int | with_reducible exact und_u32) (by first | with_reducible exact und_u8 | with_reducible exact und_u64 | with_reducible exact und_int | with_reducible exact und_u32) rfl ?_ | refine OW_add rfl rfl ?_ | refine OW_sub rfl rfl ?_ | refine OW_mul rfl rfl ?_ | refine OW_min2 rfl rfl ?_ | refine OW_max2 rfl rfl ?_ | refine OW_neg rfl ?_ | refine CW_block ?_ | refine CW_condT rfl ?_ | refine CW_condF rfl ?_ | refine CW_exit ?_ | refine CW_ret ?_ | refine CW_skip ?_ | refine LW_seq ?_ | refine LW_regC ?_ | refine LW_condC ?_ | refine LW_regF ?_ | refine LW_condF ?_ | refine FW_seq ?_ | refine FW_region (by kernel_rfl) ?_ | refine FW_block ?_ | refine FW_condT rfl ?_ | refine FW_condF rfl ?_ | refine FW_exit ?_ | refine FW_ret ?_ | refine FW_skip ?_ | refine LW_ret ?_ | refine LW_skip ?_ | refine thenE_exit ?_ | refine thenE_ret ?_ | refine inBlockE_normal ?_ | refine inBlockE_same ?_ | refine inBlockE_ret ?_ | refine inBlockE_ne (by rfl) ?_ | refine OW_eqlB (by with_reducible exact und_bool) rfl rfl ?_ | refine OW_neqB (by with_reducible exact und_bool) rfl rfl ?_ | refine OW_idxS (by with_reducible exact und_bytes) one_u8 rfl rfl _ rfl (by omega) ?_ | refine OW_idxS (by with_reducible exact und_bytess) one_bytes rfl rfl _ rfl (by omega) ?_ | refine OW_load1 (by first | with_reducible exact one_u8 | with_reducible exact one_bytes) rfl _ (by assumption) ?_)
  exact hEnd.out) (k : B) : A := h ⟨k⟩
theorem od_Words5 {A B : Prop} (h : Held B → A := by
  intro hEnd
  repeat (first
    | refine OD_pass rfl ?_
    | refine OD_take rfl ?_
    | (apply OD_step
       · intro wd hwd
         (first | refine OW_moveV (.int _ _) rfl ?_ | refine OW_moveV (.slice _ _ _) rfl ?_ | refine OW_moveV (.bool _) rfl ?_ | refine OW_moveV (.pointer _) rfl ?_ | refine OW_moveV (.string _) rfl ?_ | refine OW_moveV (.agg _) rfl ?_ | refine OW_moveV (.tuple _) rfl ?_ | refine OW_nil ?_ | refine thenE_normal ?_ | refine CW_seq ?_ | refine CW_region (by kernel_rfl) ?_ | refine OW_assignV (.int _ _) rfl ?_ | refine OW_assignV (.slice _ _ _) rfl ?_ | refine OW_assignV (.bool _) rfl ?_ | refine OW_assignV (.pointer _) rfl ?_ | refine OW_assignV (.string _) rfl ?_ | refine OW_assignV (.agg _) rfl ?_ | refine OW_assignV (.tuple _) rfl ?_ | refine OW_addI rfl rfl (by omega) ?_ | refine OW_subI rfl rfl (by omega) ?_ | refine OW_mulI rfl rfl (by omega) ?_ | refine OW_lss rfl rfl ?_ | refine OW_extract rfl rfl ?_ | refine OW_gtr rfl rfl ?_ | refine OW_leq rfl rfl ?_ | refine OW_geq rfl rfl ?_ | refine OW_eql rfl rfl ?_ | refine OW_neq rfl rfl ?_ | refine OW_not rfl ?_ | refine OW_pickT rfl _ rfl ?_ | refine OW_pickF rfl (.bool _) rfl ?_ | refine OW_pickB rfl rfl rfl ?_ | refine OW_move ?_ | refine OW_assign ?_ | refine OW_pass rfl ?_ | refine OW_take rfl ?_ | refine OW_lenS (by first | with_reducible exact und_bytes | with_reducible exact und_bytess) rfl ?_ | refine OW_convInt (by first | with_reducible exact und_u8 | with_reducible exact und_u64 | with_reducible exact und_int | with_reducible exact und_u32) (by first | with_reducible exact und_u8 | with_reducible exact und_u64 | with_reducible exact und_int | with_reducible exact und_u32) rfl ?_ | refine OW_add rfl rfl ?_ | refine OW_sub rfl rfl ?_ | refine OW_mul rfl rfl ?_ | refine OW_min2 rfl rfl ?_ | refine OW_max2 rfl rfl ?_ | refine OW_neg rfl ?_ | refine CW_block ?_ | refine CW_condT rfl ?_ | refine CW_condF rfl ?_ | refine CW_exit ?_ | refine CW_ret ?_ | refine CW_skip ?_ | refine LW_seq ?_ | refine LW_regC ?_ | refine LW_condC ?_ | refine LW_regF ?_ | refine LW_condF ?_ | refine FW_seq ?_ | refine FW_region (by kernel_rfl) ?_ | refine FW_block ?_ | refine FW_condT rfl ?_ | refine FW_condF rfl ?_ | refine FW_exit ?_ | refine FW_ret ?_ | refine FW_skip ?_ | refine LW_ret ?_ | refine LW_skip ?_ | refine thenE_exit ?_ | refine thenE_ret ?_ | refine inBlockE_normal ?_ | refine inBlockE_same ?_ | refine inBlockE_ret ?_ | refine inBlockE_ne (by rfl) ?_ | refine OW_eqlB (by with_reducible exact und_bool) rfl rfl ?_ | refine OW_neqB (by with_reducible exact und_bool) rfl rfl ?_ | refine OW_idxS (by with_reducible exact und_bytes) one_u8 rfl rfl _ rfl (by omega) ?_ | refine OW_idxS (by with_reducible exact und_bytess) one_bytes rfl rfl _ rfl (by omega) ?_ | refine OW_load1 (by first | with_reducible exact one_u8 | with_reducible exact one_bytes) rfl _ (by assumption) ?_ | refine OW_load1 (by with_reducible exact one_u8) rfl _ (by first | exact hwd.cell' (by assumption) | (subst hwd; assumption)) ?_)
         refine OW_nil ?_
         exact stay_mk _ _ _ _))
  exact hEnd.out) (k : B) : A := h ⟨k⟩
theorem shl8_or (y : Nat) (b : UInt8) (hy : y < 72057594037927936) : bitsK .or .u64 ((256 * y : Nat) : Int) (b.toNat : Int) = ((256 * y + b.toNat : Nat) : Int) := by
  have hb := b.toNat_lt
  rw [or_u64 _ _ (by omega) (by omega)]
  congr 1
  rw [show 256 * y = 2 ^ 8 * y from rfl, Nat.two_pow_add_eq_or_of_lt hb]
set_option maxHeartbeats 8000000 in
theorem load_any (w : World) (A : Option Addr) (b : List UInt8) (c : Nat) (at_ n : Int) (nN : Nat) (hnn : n = (nN : Int)) (h8 : nN ≤ 8) (ha : Bs w A b) (hc : b.length ≤ c) (hl : b.length ≤ 1000000) (hat : -9223372036854775808 ≤ at_ ∧ at_ ≤ 9223372036854775807) :
    Calls Try.prog 119 #[.slice A b.length c, .int .i64 at_, .int .i64 n] w (RetV w (.tuple #[.int .u64 (ldV b at_ nN), .bool (ldB b at_ nN)])) := by
  subst hnn
  have hno : ¬ (0 ≤ at_ ∧ at_.toNat + nN ≤ b.length) → ldV b at_ nN = 0 ∧ ldB b at_ nN = false := fun h => by simp [ldV, ldB, ldL, h]
  have hyes : (0 ≤ at_ ∧ at_.toNat + nN ≤ b.length) → ldV b at_ nN = loadL ((b.drop at_.toNat).take nN) ∧ ldB b at_ nN = true := fun h => by simp [ldV, ldB, ldL, h]
  refine calls_of_CW Try.func119 rfl (by simp [Try.ntmps119]) ?_
  rw [Try.ntmps119]
  refine go_Words5 (k := ?_)
  refine OW_split 13 _ rfl (fun h1 => ?_) (fun h1 => ?_)
  · have h1 : at_ < 0 := by simpa using h1
    obtain ⟨r1, r2⟩ := hno (by omega)
    refine go_Words5 (k := ?_)
    exact bodyE_ret2 rfl (.int .u64 0) (.bool false) rfl rfl ⟨by rw [r1, r2]; rfl, Ext.rfl' w⟩
  · have h1 : 0 ≤ at_ := by simp at h1; omega
    refine go_Words5 (k := ?_)
    refine CW_cond _ rfl (fun h3 => ?_) (fun h3 => ?_)
    · have h3 : (b.length : Int) - nN < at_ := by simpa using h3
      obtain ⟨r1, r2⟩ := hno (by omega)
      refine go_Words5 (k := ?_)
      exact bodyE_ret2 rfl (.int .u64 0) (.bool false) rfl rfl ⟨by rw [r1, r2]; rfl, Ext.rfl' w⟩
    · have h3 : at_ ≤ b.length - nN := by simp at h3; omega
      obtain ⟨r1, r2⟩ := hyes (by omega)
      obtain ⟨p, rfl⟩ := Int.eq_ofNat_of_zero_le h1
      simp only [Int.toNat_natCast] at *
      refine go_Words5 (k := ?_)
      refine OW_sliceBs und_bytes one_u8 ha rfl hc rfl ⟨_, rfl⟩ ⟨_, rfl⟩ p (p + nN) rfl (by omega) (by omega) ?_
      intro A' hA' hlen
      rw [show p + nN - p = nN by omega] at hA' hlen ⊢
      generalize hs : (b.drop p).take nN = s at *
      refine go_Words5 (k := ?_)
      refine CW_loop (fun e' w' => ∃ k : Nat, k ≤ nN ∧ e' 8 = .int .u64 (loadL (s.take k) : Nat) ∧ e' 26 = .slice A' nN (c - p) ∧ e' 27 = .int .i64 nN ∧ e' 28 = .int .i64 k ∧ Ext w w') (fun e' _ => nN - (intOf (e' 28)).toNat) ?_ ?_
      · exact ⟨0, Nat.zero_le _, by simp; rfl, rfl, rfl, rfl, Ext.rfl' w⟩
      · rintro e' w' ⟨k, hk, e8, e26, e27, e28, hw⟩
        rw [upd_self e8, upd_self e26, upd_self e27, upd_self e28]
        have hlt64 : loadL (s.take k) < 256 ^ k := by have := loadL_lt (s.take k); rwa [List.length_take, hlen, Nat.min_eq_left hk] at this
        refine go_Words5 (k := ?_)
        refine CW_cond _ rfl (fun h => ?_) (fun h => ?_)
        · have hlt : k < nN := by simp at h; omega
          obtain ⟨ad, hA1, hcA⟩ := (hA'.ext hw).at_ (show k < s.length by omega)
          subst hA1
          have hpow : (256 : Nat) ^ k ≤ 256 ^ 7 := Nat.pow_le_pow_right (by decide) (by omega)
          have hsn : loadL (s.take (k + 1)) = 256 * loadL (s.take k) + (s[k]'(by omega)).toNat := by
            rw [take_succ_get _ _ (by omega), loadL_snoc]
          generalize loadL (s.take k) = y at *
          have hy : y < 72057594037927936 := Nat.lt_of_lt_of_le hlt64 hpow
          refine go_Words5 (k := ?_)
          refine OW_shl rfl rfl (by decide) ((256 * y : Nat) : Int) ?_ ?_
          · rw [show min ((8 : Int)).toNat IntKind.u64.bits = 8 from rfl, show (y : Int) * 2 ^ 8 = ((256 * y : Nat) : Int) by omega, wrap_u64_lt _ (by omega)]
          refine go_Words5 (k := ?_)
          rw [wrap_u64_lt _ (by have := (s[k]'(by omega)).toNat_lt; omega)]
          refine OW_or rfl rfl _ (shl8_or y _ hy) ?_
          rw [← hsn]
          refine go_Words5 (k := ?_)
          refine ⟨⟨k + 1, by omega, rfl, rfl, rfl, rfl, hw⟩, ?_⟩
          show nN - ((k : Int) + 1).toNat < nN - (k : Int).toNat
          omega
        · have hge : k = nN := by simp at h; omega
          subst hge
          rw [List.take_of_length_le (by omega)]
          refine go_Words5 (k := ?_)
          exact bodyE_ret2 rfl (.int .u64 (loadL s : Nat)) (.bool true) rfl rfl ⟨by rw [r1, r2], hw⟩
theorem ldV_lt (b : List UInt8) (at_ : Int) (n : Nat) : ldV b at_ n < 256 ^ n := by
  unfold ldV ldL
  split
  · rename_i h
    have := loadL_lt ((b.drop at_.toNat).take n)
    rw [List.length_take, List.length_drop, Nat.min_eq_left (by omega)] at this
    exact this
  · simp; exact Nat.pow_pos (by decide)
set_option maxHeartbeats 8000000 in
theorem load64_any (w : World) (A : Option Addr) (b : List UInt8) (c : Nat) (at_ : Int) (ha : Bs w A b) (hc : b.length ≤ c) (hl : b.length ≤ 1000000) (hat : -9223372036854775808 ≤ at_ ∧ at_ ≤ 9223372036854775807) :
    Calls Try.prog 78 #[.slice A b.length c, .int .i64 at_] w (RetV w (.tuple #[.int .u64 (ldV b at_ 8), .bool (ldB b at_ 8)])) := by
  refine calls_of_CW Try.func78 rfl (by simp [Try.ntmps78]) ?_
  rw [Try.ntmps78]
  refine go_Words5 (k := ?_)
  refine OW_callV Try.func119 (by kernel_rfl) rfl (load_any w A b c at_ 8 8 rfl (by decide) ha hc hl hat) rfl ?_
  intro w1 hw1
  refine go_Words5 (k := ?_)
  exact bodyE_ret2 rfl (.int .u64 (ldV b at_ 8 : Nat)) (.bool (ldB b at_ 8)) rfl rfl ⟨rfl, hw1⟩
set_option maxHeartbeats 8000000 in
theorem load32_any (w : World) (A : Option Addr) (b : List UInt8) (c : Nat) (at_ : Int) (ha : Bs w A b) (hc : b.length ≤ c) (hl : b.length ≤ 1000000) (hat : -9223372036854775808 ≤ at_ ∧ at_ ≤ 9223372036854775807) :
    Calls Try.prog 82 #[.slice A b.length c, .int .i64 at_] w (RetV w (.tuple #[.int .u32 (ldV b at_ 4), .bool (ldB b at_ 4)])) := by
  refine calls_of_CW Try.func82 rfl (by simp [Try.ntmps82]) ?_
  rw [Try.ntmps82]
  refine go_Words5 (k := ?_)
  refine OW_callV Try.func119 (by kernel_rfl) rfl (load_any w A b c at_ 4 4 rfl (by decide) ha hc hl hat) rfl ?_
  intro w1 hw1
  refine go_Words5 (k := ?_)
  rw [wrap_u32_lt _ (ldV_lt b at_ 4)]
  exact bodyE_ret2 rfl (.int .u32 (ldV b at_ 4 : Nat)) (.bool (ldB b at_ 4)) rfl rfl ⟨rfl, hw1⟩

set_option maxHeartbeats 8000000 in
theorem cat_any (w : World) (A : Option Addr) (c : Nat) (vs : List BV) (hv : Rd w A (vs.map sv)) (hb : ∀ x ∈ vs, Bs w x.1 x.2.2) (hn : vs.length ≤ 1000000) (hl : (flat vs).length ≤ 1000000) :
    Calls Try.prog 50 #[.slice A vs.length c] w (RetBs 5 w (flat vs)) := by
  refine calls_of_CW Try.func50 rfl (by simp [Try.ntmps50]) ?_
  rw [Try.ntmps50]
  refine go_Words5 (k := ?_)
  refine CW_loop (fun e' w' => ∃ (k : Nat) (A2 : Option Addr) (c2 : Nat), k ≤ vs.length ∧ e' 6 = .slice A vs.length c ∧ e' 7 = .int .i64 vs.length ∧ e' 8 = .int .i64 k ∧ e' 3 = .slice A2 (flat (vs.take k)).length c2 ∧
      w'.ownsRow w.heap.size 5 1 (.slice A2 (flat (vs.take k)).length c2) (flat (vs.take k)).length ((flat (vs.take k)).map bv) ∧ Ext w w') (fun e' _ => vs.length - (intOf (e' 8)).toNat) ?_ ?_
  · exact ⟨0, none, 0, Nat.zero_le _, rfl, rfl, rfl, rfl, World.ownsRow_nil _ _ _ _, Ext.rfl' w⟩
  · rintro e' w' ⟨k, A2, c2, hk, e6, e7, e8, e3, ho, hw⟩
    rw [upd_self e6, upd_self e7, upd_self e8, upd_self e3]
    refine go_Words5 (k := ?_)
    refine CW_cond _ rfl (fun h => ?_) (fun h => ?_)
    · have hlt : k < vs.length := by simpa using h
      obtain ⟨ad, hA1, hcA⟩ := (hv.ext hw).at_ (j := k) (by simpa using hlt)
      subst hA1
      have hf := flat_take_succ hlt
      have hle := flat_le vs (k + 1)
      rw [hf, List.length_append] at hle
      have hbk := (hb vs[k] (List.getElem_mem hlt)).ext hw
      have hcA : w'.cell? (ad.add k) = some (.slice (vs[k]).1 (vs[k]).2.2.length (vs[k]).2.1) := by rw [hcA]; simp [sv]
      generalize vs[k] = x at *
      refine go_Words5 (k := ?_)
      refine OW_append und_bytes info_u8 rfl rfl rfl ho hbk (by simp) (bv_one _) (by unfold maxLen; omega) (by omega) hw.size ?_
      intro w3 A3 c3 ho3 hb3
      refine go_Words5 (k := ?_)
      refine ⟨⟨k + 1, A3, c3, by omega, rfl, rfl, rfl, ?_, ?_, hw.trans hb3⟩, ?_⟩
      · rw [hf, List.length_append]; rfl
      · rw [hf, List.length_append, List.map_append]; exact ho3
      · show vs.length - ((k : Int) + 1).toNat < vs.length - (k : Int).toNat
        omega
    · have hge : k = vs.length := by simp at h; omega
      subst hge
      rw [List.take_length] at ho ⊢
      refine go_Words5 (k := ?_)
      exact bodyE_ret1 rfl (.slice A2 (flat vs).length c2) rfl ⟨A2, c2, rfl, ho, hw⟩

/-- The exclusive or of the first k, the rest of the first list behind. -/
def xorK (a b : List UInt8) (k : Nat) : List UInt8 := (xorL a b).take k ++ (a.take (min a.length b.length)).drop k
theorem xorK_length (a b : List UInt8) (k : Nat) (hk : k ≤ min a.length b.length) : (xorK a b k).length = min a.length b.length := by
  unfold xorK; rw [List.length_append, List.length_take, xorL_length, List.length_drop, List.length_take]; omega
theorem xorK_get {a b : List UInt8} {k : Nat} (ha : k < a.length) (hb : k < b.length) : (xorK a b k)[k]? = some a[k] := by
  unfold xorK
  rw [List.getElem?_append_right (by rw [List.length_take, xorL_length]; omega), List.length_take, xorL_length, List.getElem?_drop, List.getElem?_take, if_pos (by omega), List.getElem?_eq_getElem (by omega)]
  congr 2
  omega
theorem xorK_succ {a b : List UInt8} {k : Nat} (ha : k < a.length) (hb : k < b.length) : (xorK a b k).set k (a[k] ^^^ b[k]) = xorK a b (k + 1) := by
  unfold xorK
  rw [xorL_take_succ ha hb, List.set_append_right _ _ (by rw [List.length_take, xorL_length]; omega)]
  rw [show k - ((xorL a b).take k).length = 0 by rw [List.length_take, xorL_length]; omega]
  rw [List.drop_eq_getElem_cons (show k < (a.take (min a.length b.length)).length by rw [List.length_take]; omega)]
  simp
theorem xorK_all (a b : List UInt8) : xorK a b (min a.length b.length) = xorL a b := by
  unfold xorK
  rw [List.take_of_length_le (by rw [xorL_length]; omega), List.drop_eq_nil_of_le (by rw [List.length_take]; omega), List.append_nil]
set_option maxHeartbeats 8000000 in
theorem xor_any (w : World) (A B : Option Addr) (a b : List UInt8) (c c' : Nat) (ha : Bs w A a) (hb : Bs w B b) (hc : a.length ≤ c) (hl : a.length ≤ 1000000 ∧ b.length ≤ 1000000) :
    Calls Try.prog 92 #[.slice A a.length c, .slice B b.length c'] w (RetBs 5 w (xorL a b)) := by
  obtain ⟨m, hm⟩ : ∃ m, m = min a.length b.length := ⟨_, rfl⟩
  refine calls_of_CW Try.func92 rfl (by simp [Try.ntmps92]) ?_
  rw [Try.ntmps92]
  refine go_Words5 (k := ?_)
  refine OW_sliceBs und_bytes one_u8 ha rfl hc rfl rfl ⟨_, rfl⟩ 0 m rfl (by split <;> omega) (by omega) ?_
  intro A' hA' hlen
  simp only [Nat.sub_zero, List.drop_zero] at hA' hlen ⊢
  refine OW_lit [.slice A' m c] und_bytess info_bytes rfl rfl (by simp [Value.oneCell']) (by decide) ?_
  intro w1 g1 hb1 hg1 hx1
  refine OW_callBs Try.func50 (by kernel_rfl) rfl (cat_any w1 (some ⟨g1, 0, none⟩) 1 [(A', c, a.take m)] (by have := hb1.rd; simpa [sv, hlen] using this) (by simpa using hA'.ext hx1) (by simp) (by simp [flat]; omega)) rfl ?_
  intro w2 A2 c2 h2
  have hfl : flat [((A', c, a.take m) : BV)] = a.take m := by simp [flat]
  rw [hfl] at h2 ⊢
  rw [hlen]
  have ho2 := h2.own
  rw [hlen] at ho2
  have hw2 := hx1.trans' h2.ext
  refine go_Words5 (k := ?_)
  refine CW_loop (fun e' w' => ∃ k : Nat, k ≤ m ∧ e' 1 = .slice B b.length c' ∧ e' 5 = .slice A2 m c2 ∧ e' 17 = .int .i64 m ∧ e' 18 = .int .i64 k ∧
      w'.ownsRow w.heap.size 5 1 (.slice A2 m c2) m ((xorK a b k).map bv) ∧ Ext w w') (fun e' _ => m - (intOf (e' 18)).toNat) ?_ ?_
  · refine ⟨0, Nat.zero_le _, rfl, rfl, rfl, rfl, ?_, hw2⟩
    have : xorK a b 0 = a.take m := by unfold xorK; rw [← hm]; simp
    rw [this]
    exact own_mono ho2 hx1.size
  · rintro e' w' ⟨k, hk, e1, e5, e17, e18, ho, hw⟩
    rw [upd_self e1, upd_self e5, upd_self e17, upd_self e18]
    refine go_Words5 (k := ?_)
    refine CW_cond _ rfl (fun h => ?_) (fun h => ?_)
    · have hlt : k < m := by simpa using h
      have hka : k < a.length := by omega
      have hkb : k < b.length := by omega
      obtain ⟨g, cur, hA2, hg, _⟩ := own_blk ho (by omega)
      subst hA2
      obtain ⟨bd, hB1, hcB⟩ := (hb.ext hw).at_ hkb
      subst hB1
      have hcA : w'.cell? ⟨g, k, none⟩ = some (bv a[k]) := by
        rw [ho.cellAt k (by omega), List.getElem?_map, xorK_get hka hkb]; rfl
      have hcA' : w'.cell? ((⟨g, 0, none⟩ : Addr).add k) = some (bv a[k]) := by rw [add0]; exact hcA
      have hst := ho.stored k (bv (a[k] ^^^ b[k]))
      rw [← List.map_set, xorK_succ hka hkb] at hst
      refine go_Words5 (k := ?_)
      refine CW_tail 10 (by kernel_rfl) (by kernel_rfl) (by kernel_rfl) ?_
      simp only [List.take_succ_cons, List.take_zero, List.drop_succ_cons, List.drop_zero]
      refine od_Words5 (k := ?_)
      apply OD_step
      · intro wd hwd
        refine OW_xor rfl rfl _ (xor_bv _ _) ?_
        refine OW_nil ?_
        exact stay_mk _ _ _ _
      refine od_Words5 (k := ?_)
      refine OD_nil ?_
      refine go_Words5 (k := ?_)
      rw [add0]
      refine OW_store1 one_u8 rfl (bv (a[k] ^^^ b[k])) (bv a[k]) rfl rfl hcA (ho.frozenAt k) ?_
      refine go_Words5 (k := ?_)
      refine ⟨⟨k + 1, by omega, rfl, rfl, rfl, rfl, hst.1, ?_⟩, ?_⟩
      · exact (below_only hw hst.2 hg hw.size).drew
      · show m - ((k : Int) + 1).toNat < m - (k : Int).toNat
        omega
    · have hge : k = m := by simp at h; omega
      subst hge
      have hxl := xorL_length a b
      have hall := xorK_all a b
      rw [← hm] at hall hxl
      rw [hall] at ho
      refine go_Words5 (k := ?_)
      refine bodyE_ret1 rfl (.slice A2 k c2) rfl ⟨A2, c2, by rw [hxl], ?_, hw⟩
      rw [hxl]
      exact ho

/-- All bytes or-ed. -/
def orL (l : List UInt8) : UInt8 := l.foldl (· ||| ·) 0
theorem orL_snoc (l : List UInt8) (b : UInt8) : orL (l ++ [b]) = orL l ||| b := by simp [orL]
theorem or_zero_iff (x y : UInt8) : x ||| y = 0 ↔ x = 0 ∧ y = 0 := UInt8.or_eq_zero_iff
theorem foldl_or (l : List UInt8) : ∀ x, l.foldl (· ||| ·) x = 0 ↔ x = 0 ∧ ∀ b ∈ l, b = 0 := by
  induction l with
  | nil => intro x; simp
  | cons a l ih => intro x; rw [List.foldl_cons, ih, or_zero_iff]; simp [and_assoc]
theorem xor_zero_iff (x y : UInt8) : x ^^^ y = 0 ↔ x = y := UInt8.xor_eq_zero_iff
theorem orL_xor {a b : List UInt8} (hl : a.length = b.length) : (orL (xorL a b) == 0) = (a == b) := by
  have : orL (xorL a b) = 0 ↔ a = b := by
    unfold orL
    rw [foldl_or]
    simp only [true_and]
    constructor
    · intro h
      apply List.ext_getElem hl
      intro i h1 h2
      have := h (a[i] ^^^ b[i]) (by
        unfold xorL
        rw [List.mem_iff_getElem]
        exact ⟨i, by simp; omega, by simp⟩)
      exact (xor_zero_iff _ _).1 this
    · rintro rfl x hx
      unfold xorL at hx
      rw [List.mem_iff_getElem] at hx
      obtain ⟨i, hi, rfl⟩ := hx
      simp only [List.getElem_zipWith]
      exact (xor_zero_iff _ _).2 rfl
  rw [Bool.eq_iff_iff, beq_iff_eq, beq_iff_eq]
  exact this
set_option maxHeartbeats 8000000 in
theorem sameL_any (w : World) (A B : Option Addr) (a b : List UInt8) (c c' : Nat) (ha : Bs w A a) (hb : Bs w B b) (hc : a.length ≤ c) (hl : a.length ≤ 1000000) :
    Calls Try.prog 57 #[.slice A a.length c, .slice B b.length c'] w (RetV w (.bool (a == b))) := by
  refine calls_of_CW Try.func57 rfl (by simp [Try.ntmps57]) ?_
  rw [Try.ntmps57]
  refine go_Words5 (k := ?_)
  refine CW_cond _ rfl (fun hne => ?_) (fun heq => ?_)
  · have hr : (a == b) = false := by
      rw [beq_eq_false_iff_ne]; rintro rfl; simp at hne
    refine go_Words5 (k := ?_)
    exact bodyE_ret1 rfl (.bool false) rfl ⟨by rw [hr], Ext.rfl' w⟩
  · have hlen : a.length = b.length := by simp at heq; omega
    have hl : a.length ≤ 1000000 ∧ b.length ≤ 1000000 := by omega
    refine go_Words5 (k := ?_)
    refine OW_callBs Try.func92 (by kernel_rfl) rfl (xor_any w A B a b c c' ha hb hc hl) rfl ?_
    intro w1 A1 c1 h1
    have hfin := orL_xor hlen
    generalize hx : xorL a b = x at *
    have hxl : x.length ≤ 1000000 := by rw [← hx, xorL_length]; omega
    refine go_Words5 (k := ?_)
    refine CW_loop (fun e' w' => ∃ k : Nat, k ≤ x.length ∧ e' 5 = .int .u8 ((orL (x.take k)).toNat : Nat) ∧ e' 15 = .slice A1 x.length c1 ∧ e' 16 = .int .i64 x.length ∧ e' 17 = .int .i64 k ∧ Ext w w' ∧ Ext w1 w') (fun e' _ => x.length - (intOf (e' 17)).toNat) ?_ ?_
    · exact ⟨0, Nat.zero_le _, rfl, rfl, rfl, rfl, h1.ext, Ext.rfl' w1⟩
    · rintro e' w' ⟨k, hk, e5, e15, e16, e17, hw, hw1⟩
      rw [upd_self e5, upd_self e15, upd_self e16, upd_self e17]
      refine go_Words5 (k := ?_)
      refine CW_cond _ rfl (fun h => ?_) (fun h => ?_)
      · have hlt : k < x.length := by simpa using h
        obtain ⟨ad, hA1, hcA⟩ := (h1.bs.ext hw1).at_ hlt
        subst hA1
        refine go_Words5 (k := ?_)
        refine OW_or rfl rfl _ (or_bv _ _) ?_
        rw [← orL_snoc, ← take_succ_get _ _ hlt]
        refine go_Words5 (k := ?_)
        refine ⟨⟨k + 1, by omega, rfl, rfl, rfl, rfl, hw, hw1⟩, ?_⟩
        show x.length - ((k : Int) + 1).toNat < x.length - (k : Int).toNat
        omega
      · have hge : k = x.length := by simp at h; omega
        subst hge
        rw [List.take_length]
        have hz : (((orL x).toNat : Int) == 0) = (orL x == 0) := by
          rw [Bool.eq_iff_iff, beq_iff_eq, beq_iff_eq]
          constructor
          · intro h; exact UInt8.toNat_inj.1 (by simpa using h)
          · intro h; rw [h]; rfl
        refine go_Words5 (k := ?_)
        rw [hz, hfin]
        exact bodyE_ret1 rfl (.bool (a == b)) rfl ⟨rfl, hw⟩
set_option maxHeartbeats 8000000 in
theorem same_any (w : World) (A B : Option Addr) (a b : List UInt8) (c c' : Nat) (ha : Bs w A a) (hb : Bs w B b) (hc : a.length ≤ c) (hl : a.length ≤ 1000000 ∧ b.length ≤ 1000000) :
    Calls Try.prog 57 #[.slice A a.length c, .slice B b.length c'] w (RetV w (.bool (a == b))) := sameL_any w A B a b c c' ha hb hc hl.1
end Go.Proofs.Ytdpomchhbbopbaa

/- Walks: wire's Writer. -/
namespace Go.Proofs.Ytdpomchhbbopbaa
open Go Go.RowKit
set_option linter.unusedVariables false
set_option maxRecDepth 2000

theorem go_WireW {A B : Prop} (h : Held B → A := by
  intro hEnd
  repeat (first | refine OW_moveV (.int _ _) rfl ?_ | refine OW_moveV (.slice _ _ _) rfl ?_ | refine OW_moveV (.bool _) rfl ?_ | refine OW_moveV (.pointer _) rfl ?_ | refine OW_moveV (.string _) rfl ?_ | refine OW_moveV (.agg _) rfl ?_ | refine OW_moveV (.tuple _) rfl ?_ | refine OW_nil ?_ | refine thenE_normal ?_ | refine CW_seq ?_ | refine CW_region (by kernel_rfl) ?_ | refine OW_assignV (.int _ _) rfl ?_ | refine OW_assignV (.slice _ _ _) rfl ?_ | refine OW_assignV (.bool _) rfl ?_ | refine OW_assignV (.pointer _) rfl ?_ | refine OW_assignV (.string _) rfl ?_ | refine OW_assignV (.agg _) rfl ?_ | refine OW_assignV (.tuple _) rfl ?_ | refine OW_addI rfl rfl (by omega) ?_ | refine OW_subI rfl rfl (by omega) ?_ | refine OW_mulI rfl rfl (by omega) ?_ | refine OW_lss rfl rfl ?_ | refine OW_extract rfl rfl ?_ | refine OW_gtr rfl rfl ?_ | refine OW_leq rfl rfl ?_ | refine OW_geq rfl rfl ?_ | refine OW_eql rfl rfl ?_ | refine OW_neq rfl rfl ?_ | refine OW_not rfl ?_ | refine OW_pickT rfl _ rfl ?_ | refine OW_pickF rfl (.bool _) rfl ?_ | refine OW_pickB rfl rfl rfl ?_ | refine OW_move ?_ | refine OW_assign ?_ | refine OW_pass rfl ?_ | refine OW_take rfl ?_ | refine OW_lenS (by first | with_reducible exact und_bytes | with_reducible exact und_bytess) rfl ?_ | refine OW_convInt (by first | with_reducible exact und_u8 | with_reducible exact und_u64 | with_reducible exact und_int | with_reducible exact und_u32) (by first | with_reducible exact und_u8 | with_reducible exact und_u64 | with_reducible exact und_int | with_reducible exact und_u32) rfl ?_ | refine OW_add rfl rfl ?_ | refine OW_sub rfl rfl ?_ | refine OW_mul rfl rfl ?_ | refine OW_min2 rfl rfl ?_ | refine OW_max2 rfl rfl ?_ | refine OW_neg rfl ?_ | refine CW_block ?_ | refine CW_condT rfl ?_ | refine CW_condF rfl ?_ | refine CW_exit ?_ | refine CW_ret ?_ | refine CW_skip ?_ | refine LW_seq ?_ | refine LW_regC ?_ | refine LW_condC ?_ | refine LW_regF ?_ | refine LW_condF ?_ | refine FW_seq ?_ | refine FW_region (by kernel_rfl) ?_ | refine FW_block ?_ | refine FW_condT rfl ?_ | refine FW_condF rfl ?_ | refine FW_exit ?_ | refine FW_ret ?_ | refine FW_skip ?_ | refine LW_ret ?_ | refine LW_skip ?_ | refine thenE_exit ?_ | refine thenE_ret ?_ | refine inBlockE_normal ?_ | refine inBlockE_same ?_ | refine inBlockE_ret ?_ | refine inBlockE_ne (by rfl) ?_ | refine OW_eqlB (by with_reducible exact und_bool) rfl rfl ?_ | refine OW_neqB (by with_reducible exact und_bool) rfl rfl ?_ | refine OW_idxS (by with_reducible exact und_bytes) one_u8 rfl rfl _ rfl (by omega) ?_ | refine OW_idxS (by with_reducible exact und_bytess) one_bytes rfl rfl _ rfl (by omega) ?_ | refine OW_load1 (by first | with_reducible exact one_u8 | with_reducible exact one_bytes) rfl _ (by assumption) ?_ | refine OW_nilCheck rfl ?_ | refine OW_fieldF fld_W0 rfl ?_ | refine OW_fieldF fld_W1 rfl ?_ | refine OW_fieldF fld_W2 rfl ?_ | refine OW_eqlNil und_pw rfl ?_ | refine OW_load1 (by with_reducible exact one_bool) rfl _ (by assumption) ?_)
  exact hEnd.out) (k : B) : A := h ⟨k⟩
/-- One list of bytes more: whether the form is too long; its bytes. -/
def addStep (s : Bool × List UInt8) (b : List UInt8) : Bool × List UInt8 :=
  if s.1 || decide (65536 - (s.2.length : Int) < (b.length : Int)) then (true, s.2) else (false, s.2 ++ b)
def addAll (s : Bool × List UInt8) (bs : List (List UInt8)) : Bool × List UInt8 := bs.foldl addStep s
theorem addAll_take_succ {s : Bool × List UInt8} {bs : List (List UInt8)} {k : Nat} (h : k < bs.length) : addAll s (bs.take (k + 1)) = addStep (addAll s (bs.take k)) bs[k] := by
  unfold addAll; rw [take_succ_get _ _ h, List.foldl_append]; rfl
theorem addStep_len {s : Bool × List UInt8} (b : List UInt8) (h : s.2.length ≤ 65536) : (addStep s b).2.length ≤ 65536 := by
  unfold addStep
  split
  · exact h
  · rename_i hc
    simp only [Bool.or_eq_true, decide_eq_true_eq, not_or] at hc
    simp only [List.length_append]
    omega
theorem addAll_len (bs : List (List UInt8)) : ∀ s : Bool × List UInt8, s.2.length ≤ 65536 → (addAll s bs).2.length ≤ 65536 := by
  induction bs with
  | nil => intro s h; exact h
  | cons b bs ih => intro s h; exact ih _ (addStep_len b h)

/-- A writer that was made, at block g; its blocks lie in S. -/
structure WR (w : World) (g : Nat) (S : Nat → Prop) (s : Bool × List UInt8) : Prop where
  in_ : S g
  at_ : ∃ A c, Blk w g 57 #[.bool true, .bool s.1, .slice A s.2.length c] ∧ w.ownsRow 0 5 1 (.slice A s.2.length c) s.2.length (s.2.map bv) ∧ (∀ ad, A = some ad → S ad.block)
  len : s.2.length ≤ 65536
  bd : ∀ k, S k → k < w.heap.size
theorem WR.keeps {w w' : World} {g : Nat} {S X : Nat → Prop} {s : Bool × List UInt8} (h : WR w g S s) (hk : Keeps w w' X) (hn : ∀ k, S k → ¬ X k) : WR w' g S s := by
  obtain ⟨A, c, h1, h2, h3⟩ := h.at_
  exact ⟨h.in_, ⟨A, c, h1.keeps hk (hn g h.in_), own_keeps h2 hk (fun ad ha => hn _ (h3 ad ha)), h3⟩, h.len, fun k hk2 => Nat.lt_of_lt_of_le (h.bd k hk2) hk.size⟩
theorem WR.ext {w w' : World} {g : Nat} {S : Nat → Prop} {s : Bool × List UInt8} (h : WR w g S s) (hk : Ext w w') : WR w' g S s := by
  obtain ⟨A, c, h1, h2, h3⟩ := h.at_
  exact ⟨h.in_, ⟨A, c, h1.ext hk, own_ext h2 hk, h3⟩, h.len, fun k hk2 => Nat.lt_of_lt_of_le (h.bd k hk2) hk.size⟩
theorem WR.mono {w : World} {g : Nat} {S S' : Nat → Prop} {s : Bool × List UInt8} (h : WR w g S s) (hs : ∀ k, S k → S' k) (hb : ∀ k, S' k → k < w.heap.size) : WR w g S' s := by
  obtain ⟨A, c, h1, h2, h3⟩ := h.at_
  exact ⟨hs g h.in_, ⟨A, c, h1, h2, fun ad ha => hs _ (h3 ad ha)⟩, h.len, hb⟩

set_option maxHeartbeats 8000000 in
theorem newWriter_any (w : World) : Calls Try.prog 47 #[] w (fun en w' => ∃ g, en = .returned (.pointer (some ⟨g, 0, none⟩)) ∧ w.heap.size ≤ g ∧ Ext w w' ∧ WR w' g (more (fun _ => False) w w') (false, [])) := by
  refine calls_of_CW Try.func47 rfl (by simp [Try.ntmps47]) ?_
  rw [Try.ntmps47]
  refine go_WireW (k := ?_)
  refine OW_build _ _ bld_W rfl ?_
  refine go_WireW (k := ?_)
  refine OW_box _ rfl ?_
  intro w1 g hb hg hlt hx
  refine go_WireW (k := ?_)
  exact bodyE_ret1 rfl (.pointer (some ⟨g, 0, none⟩)) rfl ⟨g, rfl, hg, hx, .inr ⟨hg, hlt⟩, ⟨none, 0, hb, World.ownsRow_nil _ _ _ _, fun ad h => by cases h⟩, Nat.zero_le _, fun k hk => by rcases hk with h | h; exact h.elim; exact h.2⟩

/-- What a writer's call comes to. -/
def WPost (w : World) (g : Nat) (S : Nat → Prop) (s : Bool × List UInt8) : Ending → World → Prop := fun en w' => en = .returned (.pointer (some ⟨g, 0, none⟩)) ∧ WR w' g (more S w w') s ∧ Keeps w w' S
set_option maxHeartbeats 8000000 in
theorem add_any (w : World) (g : Nat) (S : Nat → Prop) (s : Bool × List UInt8) (h : WR w g S s) (A : Option Addr) (c : Nat) (vs : List BV) (hv : Rd w A (vs.map sv)) (hA : ∀ ad, A = some ad → ¬ S ad.block)
    (hb : ∀ x ∈ vs, Bs w x.1 x.2.2 ∧ (∀ ad, x.1 = some ad → x.2.2 ≠ [] → ¬ S ad.block) ∧ x.2.2.length ≤ 1000000) (hn : vs.length ≤ 1000) :
    Calls Try.prog 89 #[.pointer (some ⟨g, 0, none⟩), .slice A vs.length c] w (WPost w g S (addAll s (vs.map (·.2.2)))) := by
  obtain ⟨A0, c0, hB0, ho0, hS0⟩ := h.at_
  have m0 : w.cell? ⟨g, 0, none⟩ = some (.bool true) := hB0.cell 0
  refine calls_of_CW Try.func89 rfl (by simp [Try.ntmps89]) ?_
  rw [Try.ntmps89]
  refine go_WireW (k := ?_)
  refine CW_loop (fun e' w' => ∃ (k : Nat) (lg : Bool) (l : List UInt8) (A2 : Option Addr) (c2 : Nat), k ≤ vs.length ∧ addAll s ((vs.map (·.2.2)).take k) = (lg, l) ∧ e' 0 = .pointer (some ⟨g, 0, none⟩) ∧ e' 17 = .slice A vs.length c ∧ e' 18 = .int .i64 vs.length ∧ e' 19 = .int .i64 k ∧
      Blk w' g 57 #[.bool true, .bool lg, .slice A2 l.length c2] ∧ w'.ownsRow 0 5 1 (.slice A2 l.length c2) l.length (l.map bv) ∧ (∀ ad, A2 = some ad → more S w w' ad.block) ∧ Keeps w w' S) (fun e' _ => vs.length - (intOf (e' 19)).toNat) ?_ ?_
  · exact ⟨0, s.1, s.2, A0, c0, Nat.zero_le _, rfl, rfl, rfl, rfl, rfl, hB0, ho0, fun ad ha => .inl (hS0 ad ha), Keeps.rfl' w S⟩
  rintro e' w' ⟨k, lg, l, A2, c2, hk, hal, e0, e17, e18, e19, hB, ho, hS, hK⟩
  rw [upd_self e0, upd_self e17, upd_self e18, upd_self e19]
  have hll : l.length ≤ 65536 := by have := addAll_len ((vs.map (·.2.2)).take k) s h.len; rw [hal] at this; exact this
  refine go_WireW (k := ?_)
  refine CW_cond _ rfl (fun hh => ?_) (fun hh => ?_)
  · have hlt : k < vs.length := by simpa using hh
    clear hh
    obtain ⟨ad, hA1, hcA⟩ := (hv.keeps hK hA).at_ (j := k) (by simpa using hlt)
    obtain ⟨hbk, hbn, hbl⟩ := hb vs[k] (List.getElem_mem hlt)
    have hbk := hbk.keepsN hK hbn
    have hcA : w'.cell? (ad.add k) = some (.slice (vs[k]).1 (vs[k]).2.2.length (vs[k]).2.1) := by rw [hcA]; simp [sv]
    have hsucc := addAll_take_succ (s := s) (bs := vs.map (·.2.2)) (k := k) (by simpa using hlt)
    rw [hal, List.getElem_map] at hsucc
    subst hA1
    generalize hx : vs[k] = x at *
    have c1 : w'.cell? ⟨g, 1, none⟩ = some (.bool lg) := hB.cell 1
    have c2' : w'.cell? ⟨g, 2, none⟩ = some (.slice A2 l.length c2) := hB.cell 2
    have next : ∀ (lg2 : Bool), (lg || decide (65536 - (l.length : Int) < (x.2.2.length : Int))) = lg2 → ∀ w2, Blk w2 g 57 #[.bool true, .bool lg2, .slice A2 l.length c2] → w'.grownBy w2 (some g) → True := fun _ _ _ _ _ => trivial
    clear next
    cases lg with
    | true =>
      have hst : addStep (true, l) x.2.2 = (true, l) := by simp [addStep]
      rw [hst] at hsucc
      refine go_WireW (k := ?_)
      refine OW_storeB one_bool rfl (.bool true) rfl rfl hB (by simp) ?_
      intro w2 hB2 hg2
      have d1 : w2.cell? ⟨g, 1, none⟩ = some (.bool true) := hB2.cell 1
      have hK2 := hK.trans' (Keeps.of_only hg2 h.in_)
      have hne := own_ne_blk ho hB (by decide)
      refine go_WireW (k := ?_)
      refine ⟨⟨k + 1, true, l, A2, c2, by omega, hsucc, rfl, rfl, rfl, rfl, by simpa using hB2, own_keeps ho (Keeps.of_only (S := (· = g)) hg2 rfl) hne, fun ad ha => ?_, hK2⟩, ?_⟩
      · rcases hS ad ha with h1 | h1
        · exact .inl h1
        · exact .inr ⟨h1.1, Nat.lt_of_lt_of_le h1.2 hg2.size⟩
      · show vs.length - ((k : Int) + 1).toNat < vs.length - (k : Int).toNat
        omega
    | false =>
      refine go_WireW (k := ?_)
      refine OW_storeB one_bool rfl (.bool (decide (65536 - (l.length : Int) < (x.2.2.length : Int)))) rfl rfl hB (by simp) ?_
      intro w2 hB2 hg2
      have hB2 : Blk w2 g 57 #[.bool true, .bool (decide (65536 - (l.length : Int) < (x.2.2.length : Int))), .slice A2 l.length c2] := hB2
      have hK2 := hK.trans' (Keeps.of_only hg2 h.in_)
      have hne := own_ne_blk ho hB (by decide)
      have ho2 := own_keeps ho (Keeps.of_only (S := (· = g)) hg2 rfl) hne
      by_cases hfit : 65536 - (l.length : Int) < (x.2.2.length : Int)
      · rw [show addStep (false, l) x.2.2 = (true, l) by simp [addStep, hfit]] at hsucc
        rw [decide_eq_true hfit] at hB2
        have d1 : w2.cell? ⟨g, 1, none⟩ = some (.bool true) := hB2.cell 1
        refine go_WireW (k := ?_)
        refine ⟨⟨k + 1, true, l, A2, c2, by omega, hsucc, rfl, rfl, rfl, rfl, hB2, ho2, fun ad ha => ?_, hK2⟩, ?_⟩
        · rcases hS ad ha with h1 | h1
          · exact .inl h1
          · exact .inr ⟨h1.1, Nat.lt_of_lt_of_le h1.2 hg2.size⟩
        · show vs.length - ((k : Int) + 1).toNat < vs.length - (k : Int).toNat
          omega
      · rw [show addStep (false, l) x.2.2 = (false, l ++ x.2.2) by simp [addStep, hfit]] at hsucc
        rw [decide_eq_false hfit] at hB2
        have d1 : w2.cell? ⟨g, 1, none⟩ = some (.bool false) := hB2.cell 1
        have d2 : w2.cell? ⟨g, 2, none⟩ = some (.slice A2 l.length c2) := hB2.cell 2
        have hbk2 := hbk.keepsN (Keeps.of_only (S := S) hg2 h.in_) hbn
        have hS2 : ∀ ad, A2 = some ad → more S w w2 ad.block := fun ad ha => by
          rcases hS ad ha with h1 | h1
          · exact .inl h1
          · exact .inr ⟨h1.1, Nat.lt_of_lt_of_le h1.2 hg2.size⟩
        refine go_WireW (k := ?_)
        refine OW_appendK (by with_reducible exact und_bytes) info_u8 rfl rfl rfl ho2 hbk2 (by simp) (by intro u hu; obtain ⟨b, _, rfl⟩ := List.mem_map.1 hu; rfl) (by simp only [maxLen]; omega) (by omega) (Nat.zero_le _) ?_
        intro w3 A3 c3 ho3 hg3 hw3
        have hg3' : Keeps w2 w3 (more S w w2) := Keeps.of_grown hg3 (fun b hb => by
          cases A2 with
          | none => cases hb
          | some ad => cases hb; exact hS2 ad rfl)
        have hB3 : Blk w3 g 57 #[.bool true, .bool false, .slice A2 l.length c2] := hB2.keeps (Keeps.of_grown (S := fun b => ∃ ad, A2 = some ad ∧ ad.block = b) hg3 (fun b hb => by
          cases A2 with
          | none => cases hb
          | some ad => cases hb; exact ⟨ad, rfl, rfl⟩)) (fun ⟨ad, ha, hb⟩ => hne ad ha hb)
        have hK3 := hK2.trans_more hg3'
        refine go_WireW (k := ?_)
        refine OW_storeB one_bytes rfl (.slice A3 (l.length + x.2.2.length) c3) rfl rfl hB3 (by simp) ?_
        intro w4 hB4 hg4
        have hB4 : Blk w4 g 57 #[.bool true, .bool false, .slice A3 (l.length + x.2.2.length) c3] := hB4
        rw [← List.length_append] at hB4 ho3
        rw [← List.map_append] at ho3
        have ho4 := own_keeps ho3 (Keeps.of_only (S := (· = g)) hg4 rfl) (own_ne_blk ho3 hB3 (by decide))
        have hK4 := hK3.trans' (Keeps.of_only hg4 h.in_)
        refine go_WireW (k := ?_)
        refine ⟨⟨k + 1, false, l ++ x.2.2, A3, c3, by omega, hsucc, rfl, rfl, rfl, rfl, hB4, ho4, fun ad ha => ?_, hK4⟩, ?_⟩
        · subst ha
          rcases hw3 with h1 | h1
          · cases A2 with
            | none => cases h1
            | some ad2 =>
              injection h1 with h1
              have := hS2 ad2 rfl
              rw [← h1] at this
              rcases this with h2 | h2
              · exact .inl h2
              · exact .inr ⟨h2.1, Nat.lt_of_lt_of_le h2.2 (Nat.le_trans hg3.size hg4.size)⟩
          · injection h1 with h1
            exact .inr ⟨by rw [h1]; exact hK2.size, Nat.lt_of_lt_of_le (own_block ho3 ad rfl).2 hg4.size⟩
        · show vs.length - ((k : Int) + 1).toNat < vs.length - (k : Int).toNat
          omega
  · have hge : k = vs.length := by simp at hh; omega
    subst hge
    rw [List.take_of_length_le (by simp)] at hal
    rw [hal]
    refine go_WireW (k := ?_)
    exact bodyE_ret1 rfl (.pointer (some ⟨g, 0, none⟩)) rfl ⟨rfl, ⟨.inl h.in_, ⟨A2, c2, hB, ho, hS⟩, hll, fun k hk2 => by rcases hk2 with h1 | h1; exact Nat.lt_of_lt_of_le (h.bd k h1) hK.size; exact h1.2⟩, hK⟩
end Go.Proofs.Ytdpomchhbbopbaa

/- Walks: the Writer's own methods, each by what it adds. -/
namespace Go.Proofs.Ytdpomchhbbopbaa
open Go Go.RowKit
set_option linter.unusedVariables false
set_option maxRecDepth 2000

theorem go_WireW2 {A B : Prop} (h : Held B → A := by
  intro hEnd
  repeat (first | refine OW_moveV (.int _ _) rfl ?_ | refine OW_moveV (.slice _ _ _) rfl ?_ | refine OW_moveV (.bool _) rfl ?_ | refine OW_moveV (.pointer _) rfl ?_ | refine OW_moveV (.string _) rfl ?_ | refine OW_moveV (.agg _) rfl ?_ | refine OW_moveV (.tuple _) rfl ?_ | refine OW_nil ?_ | refine thenE_normal ?_ | refine CW_seq ?_ | refine CW_region (by kernel_rfl) ?_ | refine OW_assignV (.int _ _) rfl ?_ | refine OW_assignV (.slice _ _ _) rfl ?_ | refine OW_assignV (.bool _) rfl ?_ | refine OW_assignV (.pointer _) rfl ?_ | refine OW_assignV (.string _) rfl ?_ | refine OW_assignV (.agg _) rfl ?_ | refine OW_assignV (.tuple _) rfl ?_ | refine OW_addI rfl rfl (by omega) ?_ | refine OW_subI rfl rfl (by omega) ?_ | refine OW_mulI rfl rfl (by omega) ?_ | refine OW_lss rfl rfl ?_ | refine OW_extract rfl rfl ?_ | refine OW_gtr rfl rfl ?_ | refine OW_leq rfl rfl ?_ | refine OW_geq rfl rfl ?_ | refine OW_eql rfl rfl ?_ | refine OW_neq rfl rfl ?_ | refine OW_not rfl ?_ | refine OW_pickT rfl _ rfl ?_ | refine OW_pickF rfl (.bool _) rfl ?_ | refine OW_pickB rfl rfl rfl ?_ | refine OW_move ?_ | refine OW_assign ?_ | refine OW_pass rfl ?_ | refine OW_take rfl ?_ | refine OW_lenS (by first | with_reducible exact und_bytes | with_reducible exact und_bytess) rfl ?_ | refine OW_convInt (by first | with_reducible exact und_u8 | with_reducible exact und_u64 | with_reducible exact und_int | with_reducible exact und_u32) (by first | with_reducible exact und_u8 | with_reducible exact und_u64 | with_reducible exact und_int | with_reducible exact und_u32) rfl ?_ | refine OW_add rfl rfl ?_ | refine OW_sub rfl rfl ?_ | refine OW_mul rfl rfl ?_ | refine OW_min2 rfl rfl ?_ | refine OW_max2 rfl rfl ?_ | refine OW_neg rfl ?_ | refine CW_block ?_ | refine CW_condT rfl ?_ | refine CW_condF rfl ?_ | refine CW_exit ?_ | refine CW_ret ?_ | refine CW_skip ?_ | refine LW_seq ?_ | refine LW_regC ?_ | refine LW_condC ?_ | refine LW_regF ?_ | refine LW_condF ?_ | refine FW_seq ?_ | refine FW_region (by kernel_rfl) ?_ | refine FW_block ?_ | refine FW_condT rfl ?_ | refine FW_condF rfl ?_ | refine FW_exit ?_ | refine FW_ret ?_ | refine FW_skip ?_ | refine LW_ret ?_ | refine LW_skip ?_ | refine thenE_exit ?_ | refine thenE_ret ?_ | refine inBlockE_normal ?_ | refine inBlockE_same ?_ | refine inBlockE_ret ?_ | refine inBlockE_ne (by rfl) ?_ | refine OW_eqlB (by with_reducible exact und_bool) rfl rfl ?_ | refine OW_neqB (by with_reducible exact und_bool) rfl rfl ?_ | refine OW_idxS (by with_reducible exact und_bytes) one_u8 rfl rfl _ rfl (by omega) ?_ | refine OW_idxS (by with_reducible exact und_bytess) one_bytes rfl rfl _ rfl (by omega) ?_ | refine OW_load1 (by first | with_reducible exact one_u8 | with_reducible exact one_bytes) rfl _ (by assumption) ?_ | refine OW_nilCheck rfl ?_ | refine OW_fieldF fld_W0 rfl ?_ | refine OW_fieldF fld_W1 rfl ?_ | refine OW_fieldF fld_W2 rfl ?_ | refine OW_eqlNil und_pw rfl ?_ | refine OW_load1 (by with_reducible exact one_bool) rfl _ (by assumption) ?_)
  exact hEnd.out) (k : B) : A := h ⟨k⟩
theorem WPost.of {w w1 : World} {g : Nat} {S : Nat → Prop} {s : Bool × List UInt8} {en : Ending} {w' : World} (h : WPost w1 g S s en w') (hx : Ext w w1) (hb : ∀ k, S k → k < w.heap.size) : WPost w g S s en w' := by
  obtain ⟨h1, h2, h3⟩ := h
  refine ⟨h1, h2.mono (fun k hk => ?_) (fun k hk => ?_), (Keeps.of_ext hx S).trans' h3⟩
  · rcases hk with h | h
    · exact .inl h
    · exact .inr ⟨Nat.le_trans hx.size h.1, h.2⟩
  · rcases hk with h | h
    · exact Nat.lt_of_lt_of_le (hb k h) (Nat.le_trans hx.size h3.size)
    · exact h.2
theorem blk_bs {w : World} {g : Nat} {T : TypeId} (l : List UInt8) (h : Blk w g T (l.map bv).toArray) : Bs w (some ⟨g, 0, none⟩) l := by
  intro j u hu
  refine ⟨_, rfl, ?_⟩
  rw [show ((⟨g, 0, none⟩ : Addr).add j) = ⟨g, j, none⟩ by unfold Addr.add; split <;> simp_all]
  rw [h.cell]
  simpa using hu
theorem blk_rd {w : World} {g : Nat} {T : TypeId} (l : List Value) (h : Blk w g T l.toArray) : Rd w (some ⟨g, 0, none⟩) l := by
  intro j u hu
  refine ⟨_, rfl, ?_⟩
  rw [show ((⟨g, 0, none⟩ : Addr).add j) = ⟨g, j, none⟩ by unfold Addr.add; split <;> simp_all]
  rw [h.cell]
  simpa using hu

set_option maxHeartbeats 8000000 in
theorem wByte_any (w : World) (g : Nat) (S : Nat → Prop) (s : Bool × List UInt8) (h : WR w g S s) (b : UInt8) :
    Calls Try.prog 52 #[.pointer (some ⟨g, 0, none⟩), bv b] w (WPost w g S (addAll s [[b]])) := by
  have hbv : bv b = .int .u8 (b.toNat : Int) := rfl
  rw [hbv]
  refine calls_of_CW Try.func52 rfl (by simp [Try.ntmps52]) ?_
  rw [Try.ntmps52]
  refine go_WireW2 (k := ?_)
  refine OW_lit [bv b] (by with_reducible exact und_bytes) info_u8 rfl rfl (by simp [bv, Value.oneCell']) (by decide) ?_
  intro w1 g1 hb1 hg1 hx1
  refine go_WireW2 (k := ?_)
  refine OW_lit [sv (some ⟨g1, 0, none⟩, 1, [b])] (by with_reducible exact und_bytess) info_bytes rfl rfl (by simp [sv, Value.oneCell']) (by decide) ?_
  intro w2 g2 hb2 hg2 hx2
  have hx := hx1.trans' hx2
  refine go_WireW2 (k := ?_)
  refine OW_callC Try.func89 (by kernel_rfl) rfl (add_any w2 g S s (h.ext hx) (some ⟨g2, 0, none⟩) 1 [(some ⟨g1, 0, none⟩, 1, [b])] (blk_rd _ hb2) (fun ad ha => by cases ha; intro hh; have h1 := h.bd _ hh; have h2 := hx1.size; exact absurd h1 (by simp only; omega))
    (fun x hx => by
      rw [List.mem_singleton] at hx
      subst hx
      exact ⟨(blk_bs [b] hb1).ext hx2, fun ad ha _ => by cases ha; intro hh; have h1 := h.bd _ hh; exact absurd h1 (by simp only; omega), by simp⟩) (by simp)) rfl ?_
  rintro en w3 ⟨rfl, hw, hk⟩
  refine ⟨_, rfl, ?_⟩
  refine go_WireW2 (k := ?_)
  exact bodyE_ret1 rfl (.pointer (some ⟨g, 0, none⟩)) rfl (WPost.of ⟨rfl, hw, hk⟩ hx h.bd)

set_option maxHeartbeats 8000000 in
theorem wInt_any (w : World) (g : Nat) (S : Nat → Prop) (s : Bool × List UInt8) (h : WR w g S s) (n : Int) :
    Calls Try.prog 48 #[.pointer (some ⟨g, 0, none⟩), .int .i64 n] w (WPost w g S (addAll s [putL (u64N n) 8])) := by
  refine calls_of_CW Try.func48 rfl (by simp [Try.ntmps48]) ?_
  rw [Try.ntmps48]
  refine go_WireW2 (k := ?_)
  rw [wrap_u64I]
  refine OW_callBs Try.func90 (by kernel_rfl) rfl (put64_any w (u64N n) (u64N_lt n)) rfl ?_
  intro w1 A1 c1 hf1
  refine go_WireW2 (k := ?_)
  refine OW_lit [sv (A1, c1, putL (u64N n) 8)] (by with_reducible exact und_bytess) info_bytes rfl rfl (by simp [sv, Value.oneCell']) (by decide) ?_
  intro w2 g2 hb2 hg2 hx2
  have hx := hf1.ext.trans' hx2
  refine go_WireW2 (k := ?_)
  refine OW_callC Try.func89 (by kernel_rfl) rfl (add_any w2 g S s (h.ext hx) (some ⟨g2, 0, none⟩) 1 [(A1, c1, putL (u64N n) 8)] (blk_rd _ hb2) (fun ad ha => by cases ha; intro hh; have h1 := h.bd _ hh; have h2 := hf1.ext.size; exact absurd h1 (by simp only; omega))
    (fun x hx => by
      rw [List.mem_singleton] at hx
      subst hx
      exact ⟨hf1.bs.ext hx2, fun ad ha _ hh => by have h1 := h.bd _ hh; have h2 := (own_block hf1.own ad ha).1; omega, by simp [putL_length]⟩) (by simp)) rfl ?_
  rintro en w3 ⟨rfl, hw, hk⟩
  refine ⟨_, rfl, ?_⟩
  refine go_WireW2 (k := ?_)
  exact bodyE_ret1 rfl (.pointer (some ⟨g, 0, none⟩)) rfl (WPost.of ⟨rfl, hw, hk⟩ hx h.bd)

set_option maxHeartbeats 8000000 in
theorem wFlag_any (w : World) (g : Nat) (S : Nat → Prop) (s : Bool × List UInt8) (h : WR w g S s) (is : Bool) :
    Calls Try.prog 53 #[.pointer (some ⟨g, 0, none⟩), .bool is] w (WPost w g S (addAll s [[if is then 1 else 0]])) := by
  refine calls_of_CW Try.func53 rfl (by simp [Try.ntmps53]) ?_
  rw [Try.ntmps53]
  cases is
  · refine go_WireW2 (k := ?_)
    refine OW_callC Try.func52 (by kernel_rfl) rfl (wByte_any w g S s h 0) rfl ?_
    rintro en w3 ⟨rfl, hw, hk⟩
    refine ⟨_, rfl, ?_⟩
    refine go_WireW2 (k := ?_)
    exact bodyE_ret1 rfl (.pointer (some ⟨g, 0, none⟩)) rfl ⟨rfl, hw, hk⟩
  · refine go_WireW2 (k := ?_)
    refine OW_callC Try.func52 (by kernel_rfl) rfl (wByte_any w g S s h 1) rfl ?_
    rintro en w3 ⟨rfl, hw, hk⟩
    refine ⟨_, rfl, ?_⟩
    refine go_WireW2 (k := ?_)
    exact bodyE_ret1 rfl (.pointer (some ⟨g, 0, none⟩)) rfl ⟨rfl, hw, hk⟩

set_option maxHeartbeats 8000000 in
theorem wBytes_any (w : World) (g : Nat) (S : Nat → Prop) (s : Bool × List UInt8) (h : WR w g S s) (A : Option Addr) (b : List UInt8) (c : Nat) (hb : Bs w A b) (hA : ∀ ad, A = some ad → b ≠ [] → ¬ S ad.block) (hl : b.length ≤ 1000000) :
    Calls Try.prog 54 #[.pointer (some ⟨g, 0, none⟩), .slice A b.length c] w (WPost w g S (addAll s [putL b.length 4, b])) := by
  refine calls_of_CW Try.func54 rfl (by simp [Try.ntmps54]) ?_
  rw [Try.ntmps54]
  refine go_WireW2 (k := ?_)
  rw [wrap_u32_lt _ (by omega)]
  refine OW_callBs Try.func91 (by kernel_rfl) rfl (put32_any w b.length (by omega)) rfl ?_
  intro w1 A1 c1 hf1
  refine go_WireW2 (k := ?_)
  refine OW_lit [sv (A1, c1, putL b.length 4), sv (A, c, b)] (by with_reducible exact und_bytess) info_bytes rfl rfl (by simp [sv, Value.oneCell']) (by decide) ?_
  intro w2 g2 hb2 hg2 hx2
  have hx := hf1.ext.trans' hx2
  refine go_WireW2 (k := ?_)
  refine OW_callC Try.func89 (by kernel_rfl) rfl (add_any w2 g S s (h.ext hx) (some ⟨g2, 0, none⟩) 2 [(A1, c1, putL b.length 4), (A, c, b)] (blk_rd _ hb2) (fun ad ha => by cases ha; intro hh; have h1 := h.bd _ hh; have h2 := hf1.ext.size; exact absurd h1 (by simp only; omega))
    (fun x hx' => by
      rw [List.mem_cons, List.mem_singleton] at hx'
      rcases hx' with hx' | hx'
      · subst hx'
        exact ⟨hf1.bs.ext hx2, fun ad ha _ hh => by have h1 := h.bd _ hh; have h2 := (own_block hf1.own ad ha).1; omega, by simp [putL_length]⟩
      · subst hx'
        exact ⟨hb.ext hx, hA, hl⟩) (by simp)) rfl ?_
  rintro en w3 ⟨rfl, hw, hk⟩
  refine ⟨_, rfl, ?_⟩
  refine go_WireW2 (k := ?_)
  exact bodyE_ret1 rfl (.pointer (some ⟨g, 0, none⟩)) rfl (WPost.of ⟨rfl, hw, hk⟩ hx h.bd)

set_option maxHeartbeats 8000000 in
theorem wText_any (w : World) (g : Nat) (S : Nat → Prop) (s : Bool × List UInt8) (h : WR w g S s) (t : ByteArray) (hl : t.data.toList.length ≤ 1000000) :
    Calls Try.prog 55 #[.pointer (some ⟨g, 0, none⟩), .string t] w (WPost w g S (addAll s [putL t.data.toList.length 4, t.data.toList])) := by
  refine calls_of_CW Try.func55 rfl (by simp [Try.ntmps55]) ?_
  rw [Try.ntmps55]
  refine go_WireW2 (k := ?_)
  refine OW_bytesOf t und_string (by with_reducible exact und_bytes) und_u8 rfl ?_
  intro w1 A c hb hA hx
  refine go_WireW2 (k := ?_)
  refine OW_callC Try.func54 (by kernel_rfl) rfl (wBytes_any w1 g S s (h.ext hx) A t.data.toList c hb (fun ad ha _ hh => by have h1 := h.bd _ hh; have h2 := hA ad ha; omega) hl) rfl ?_
  rintro en w3 ⟨rfl, hw, hk⟩
  refine ⟨_, rfl, ?_⟩
  refine go_WireW2 (k := ?_)
  exact bodyE_ret1 rfl (.pointer (some ⟨g, 0, none⟩)) rfl (WPost.of ⟨rfl, hw, hk⟩ hx h.bd)

set_option maxHeartbeats 8000000 in
theorem wTag_any (w : World) (g : Nat) (S : Nat → Prop) (s : Bool × List UInt8) (h : WR w g S s) (t : List UInt8) (hl : t.length = 32) :
    Calls Try.prog 56 #[.pointer (some ⟨g, 0, none⟩), .agg (t.map bv).toArray] w (WPost w g S (addAll s [t])) := by
  refine calls_of_CW Try.func56 rfl (by simp [Try.ntmps56]) ?_
  rw [Try.ntmps56]
  refine go_WireW2 (k := ?_)
  refine OW_box _ rfl ?_
  intro w1 g1 hb1 hg1 hlt1 hx1
  have hb1 : Blk w1 g1 25 (t.map bv).toArray := hb1
  refine go_WireW2 (k := ?_)
  refine OW_sliceP slp_Tag rfl ?_
  refine go_WireW2 (k := ?_)
  rw [← hl]
  refine OW_lit [sv (some ⟨g1, 0, none⟩, t.length, t)] (by with_reducible exact und_bytess) info_bytes rfl rfl (by simp [sv, Value.oneCell']) (by decide) ?_
  intro w2 g2 hb2 hg2 hx2
  have hx := hx1.trans' hx2
  refine go_WireW2 (k := ?_)
  refine OW_callC Try.func89 (by kernel_rfl) rfl (add_any w2 g S s (h.ext hx) (some ⟨g2, 0, none⟩) 1 [(some ⟨g1, 0, none⟩, t.length, t)] (blk_rd _ hb2) (fun ad ha => by cases ha; intro hh; have h1 := h.bd _ hh; have h2 := hx1.size; exact absurd h1 (by simp only; omega))
    (fun x hx => by
      rw [List.mem_singleton] at hx
      subst hx
      exact ⟨(blk_bs t hb1).ext hx2, fun ad ha _ => by cases ha; intro hh; have h1 := h.bd _ hh; exact absurd h1 (by simp only; omega), by simp [hl]⟩) (by simp)) rfl ?_
  rintro en w3 ⟨rfl, hw, hk⟩
  refine ⟨_, rfl, ?_⟩
  refine go_WireW2 (k := ?_)
  exact bodyE_ret1 rfl (.pointer (some ⟨g, 0, none⟩)) rfl (WPost.of ⟨rfl, hw, hk⟩ hx h.bd)

/-- What Done tells. -/
def DoneP (w : World) (s : Bool × List UInt8) : Ending → World → Prop := fun en w' => Ext w w' ∧ ((s.1 = true ∧ en = .returned (.tuple #[.slice none 0 0, .int .i64 3]) ∧ w' = w) ∨ (s.1 = false ∧ ∃ A c, en = .returned (.tuple #[.slice A s.2.length c, .int .i64 0]) ∧ Fresh 5 w w' A c s.2))
set_option maxHeartbeats 8000000 in
theorem wDone_any (w : World) (g : Nat) (S : Nat → Prop) (s : Bool × List UInt8) (h : WR w g S s) :
    Calls Try.prog 32 #[.pointer (some ⟨g, 0, none⟩)] w (DoneP w s) := by
  obtain ⟨A0, c0, hB0, ho0, hS0⟩ := h.at_
  have hll := h.len
  obtain ⟨lg, l⟩ := s
  have m0 : w.cell? ⟨g, 0, none⟩ = some (.bool true) := hB0.cell 0
  have m1 : w.cell? ⟨g, 1, none⟩ = some (.bool lg) := hB0.cell 1
  have m2 : w.cell? ⟨g, 2, none⟩ = some (.slice A0 l.length c0) := hB0.cell 2
  refine calls_of_CW Try.func32 rfl (by simp [Try.ntmps32]) ?_
  rw [Try.ntmps32]
  cases lg
  · refine go_WireW2 (k := ?_)
    refine OW_lit [sv (A0, c0, l)] (by with_reducible exact und_bytess) info_bytes rfl rfl (by simp [sv, Value.oneCell']) (by decide) ?_
    intro w2 g2 hb2 hg2 hx2
    refine go_WireW2 (k := ?_)
    refine OW_callBs Try.func50 (by kernel_rfl) rfl (cat_any w2 (some ⟨g2, 0, none⟩) 1 [(A0, c0, l)] (blk_rd _ hb2) (fun x hx => by
      rw [List.mem_singleton] at hx
      subst hx
      exact (own_rd ho0).ext hx2) (by simp) (by have h9 : l.length ≤ 65536 := hll; simp [flat]; omega)) rfl ?_
    intro w3 A3 c3 hf3
    have hfl : flat [(A0, c0, l)] = l := by simp [flat]
    rw [hfl] at hf3 ⊢
    refine go_WireW2 (k := ?_)
    exact bodyE_ret2 rfl (.slice A3 l.length c3) (.int .i64 0) rfl rfl ⟨hx2.trans' hf3.ext, .inr ⟨rfl, A3, c3, rfl, hf3.back hx2⟩⟩
  · refine go_WireW2 (k := ?_)
    exact bodyE_ret2 rfl (.slice none 0 0) (.int .i64 3) rfl rfl ⟨Ext.rfl' w, .inl ⟨rfl, rfl, rfl⟩⟩
end Go.Proofs.Ytdpomchhbbopbaa

/- Walks: wire's Reader: its state, fine, bad, Err, Left, End, NewReader. -/
namespace Go.Proofs.Ytdpomchhbbopbaa
open Go Go.RowKit
set_option linter.unusedVariables false
set_option maxRecDepth 2000

theorem go_WireR {A B : Prop} (h : Held B → A := by
  intro hEnd
  repeat (first | refine OW_moveV (.int _ _) rfl ?_ | refine OW_moveV (.slice _ _ _) rfl ?_ | refine OW_moveV (.bool _) rfl ?_ | refine OW_moveV (.pointer _) rfl ?_ | refine OW_moveV (.string _) rfl ?_ | refine OW_moveV (.agg _) rfl ?_ | refine OW_moveV (.tuple _) rfl ?_ | refine OW_nil ?_ | refine thenE_normal ?_ | refine CW_seq ?_ | refine CW_region (by kernel_rfl) ?_ | refine OW_assignV (.int _ _) rfl ?_ | refine OW_assignV (.slice _ _ _) rfl ?_ | refine OW_assignV (.bool _) rfl ?_ | refine OW_assignV (.pointer _) rfl ?_ | refine OW_assignV (.string _) rfl ?_ | refine OW_assignV (.agg _) rfl ?_ | refine OW_assignV (.tuple _) rfl ?_ | refine OW_addI rfl rfl (by omega) ?_ | refine OW_subI rfl rfl (by omega) ?_ | refine OW_mulI rfl rfl (by omega) ?_ | refine OW_lss rfl rfl ?_ | refine OW_extract rfl rfl ?_ | refine OW_gtr rfl rfl ?_ | refine OW_leq rfl rfl ?_ | refine OW_geq rfl rfl ?_ | refine OW_eql rfl rfl ?_ | refine OW_neq rfl rfl ?_ | refine OW_not rfl ?_ | refine OW_pickT rfl _ rfl ?_ | refine OW_pickF rfl (.bool _) rfl ?_ | refine OW_pickB rfl rfl rfl ?_ | refine OW_move ?_ | refine OW_assign ?_ | refine OW_pass rfl ?_ | refine OW_take rfl ?_ | refine OW_lenS (by first | with_reducible exact und_bytes | with_reducible exact und_bytess) rfl ?_ | refine OW_convInt (by first | with_reducible exact und_u8 | with_reducible exact und_u64 | with_reducible exact und_int | with_reducible exact und_u32) (by first | with_reducible exact und_u8 | with_reducible exact und_u64 | with_reducible exact und_int | with_reducible exact und_u32) rfl ?_ | refine OW_add rfl rfl ?_ | refine OW_sub rfl rfl ?_ | refine OW_mul rfl rfl ?_ | refine OW_min2 rfl rfl ?_ | refine OW_max2 rfl rfl ?_ | refine OW_neg rfl ?_ | refine CW_block ?_ | refine CW_condT rfl ?_ | refine CW_condF rfl ?_ | refine CW_exit ?_ | refine CW_ret ?_ | refine CW_skip ?_ | refine LW_seq ?_ | refine LW_regC ?_ | refine LW_condC ?_ | refine LW_regF ?_ | refine LW_condF ?_ | refine FW_seq ?_ | refine FW_region (by kernel_rfl) ?_ | refine FW_block ?_ | refine FW_condT rfl ?_ | refine FW_condF rfl ?_ | refine FW_exit ?_ | refine FW_ret ?_ | refine FW_skip ?_ | refine LW_ret ?_ | refine LW_skip ?_ | refine thenE_exit ?_ | refine thenE_ret ?_ | refine inBlockE_normal ?_ | refine inBlockE_same ?_ | refine inBlockE_ret ?_ | refine inBlockE_ne (by rfl) ?_ | refine OW_eqlB (by with_reducible exact und_bool) rfl rfl ?_ | refine OW_neqB (by with_reducible exact und_bool) rfl rfl ?_ | refine OW_idxS (by with_reducible exact und_bytes) one_u8 rfl rfl _ rfl (by omega) ?_ | refine OW_idxS (by with_reducible exact und_bytess) one_bytes rfl rfl _ rfl (by omega) ?_ | refine OW_load1 (by first | with_reducible exact one_u8 | with_reducible exact one_bytes) rfl _ (by assumption) ?_ | refine OW_nilCheck rfl ?_ | refine OW_fieldF fld_R0 rfl ?_ | refine OW_fieldF fld_R1 rfl ?_ | refine OW_fieldF fld_R2 rfl ?_ | refine OW_eqlNil und_pr rfl ?_ | refine OW_neqNil und_pr rfl ?_ | refine OW_load1 (by first | with_reducible exact one_bool | with_reducible exact one_errno) rfl _ (by assumption) ?_)
  exact hEnd.out) (k : B) : A := h ⟨k⟩
theorem cutA_block {A : Option Addr} {m l : Nat} {ad : Addr} (h : cutA A m l = some ad) : ∃ ad0, A = some ad0 ∧ ad.block = ad0.block := by
  unfold cutA at h
  split at h
  · exact ⟨ad, h, rfl⟩
  · cases A with
    | none => cases h
    | some a0 => cases h; exact ⟨a0, rfl, addr_add_block _ _⟩
/-- A reader that was made, at block g: what is left, why it is bad. Its blocks lie in S. -/
structure RR (w : World) (g : Nat) (S : Nat → Prop) (s : List UInt8 × Int) : Prop where
  in_ : S g
  at_ : ∃ A c, Blk w g 60 #[.bool true, .slice A s.1.length c, .int .i64 s.2] ∧ Bs w A s.1 ∧ s.1.length ≤ c ∧ (∀ ad, A = some ad → S ad.block ∧ ad.block ≠ g)
  len : s.1.length ≤ 65536
  bad : s.2 ≠ 0 → s.1 = []
  bd : ∀ k, S k → k < w.heap.size
theorem RR.keeps {w w' : World} {g : Nat} {S X : Nat → Prop} {s : List UInt8 × Int} (h : RR w g S s) (hk : Keeps w w' X) (hn : ∀ k, S k → ¬ X k) : RR w' g S s := by
  obtain ⟨A, c, h1, h2, h3, h4⟩ := h.at_
  exact ⟨h.in_, ⟨A, c, h1.keeps hk (hn g h.in_), h2.keeps hk (fun ad ha => hn _ (h4 ad ha).1), h3, h4⟩, h.len, h.bad, fun k hk2 => Nat.lt_of_lt_of_le (h.bd k hk2) hk.size⟩
theorem RR.ext {w w' : World} {g : Nat} {S : Nat → Prop} {s : List UInt8 × Int} (h : RR w g S s) (hk : Ext w w') : RR w' g S s := by
  obtain ⟨A, c, h1, h2, h3, h4⟩ := h.at_
  exact ⟨h.in_, ⟨A, c, h1.ext hk, h2.ext hk, h3, h4⟩, h.len, h.bad, fun k hk2 => Nat.lt_of_lt_of_le (h.bd k hk2) hk.size⟩

set_option maxHeartbeats 8000000 in
theorem fine_any (w : World) (g : Nat) (S : Nat → Prop) (s : List UInt8 × Int) (h : RR w g S s) : Calls Try.prog 88 #[.pointer (some ⟨g, 0, none⟩)] w (RetV w (.bool (decide (s.2 = 0)))) := by
  obtain ⟨A, c, hB, hb, hc, hS⟩ := h.at_
  have m0 : w.cell? ⟨g, 0, none⟩ = some (.bool true) := hB.cell 0
  have m2 : w.cell? ⟨g, 2, none⟩ = some (.int .i64 s.2) := hB.cell 2
  refine calls_of_CW Try.func88 rfl (by simp [Try.ntmps88]) ?_
  rw [Try.ntmps88]
  refine go_WireR (k := ?_)
  exact bodyE_ret1 rfl (.bool (decide (s.2 = 0))) rfl ⟨rfl, Ext.rfl' w⟩

set_option maxHeartbeats 8000000 in
theorem rErr_any (w : World) (g : Nat) (S : Nat → Prop) (s : List UInt8 × Int) (h : RR w g S s) : Calls Try.prog 41 #[.pointer (some ⟨g, 0, none⟩)] w (RetV w (.int .i64 s.2)) := by
  obtain ⟨A, c, hB, hb, hc, hS⟩ := h.at_
  have m0 : w.cell? ⟨g, 0, none⟩ = some (.bool true) := hB.cell 0
  have m2 : w.cell? ⟨g, 2, none⟩ = some (.int .i64 s.2) := hB.cell 2
  refine calls_of_CW Try.func41 rfl (by simp [Try.ntmps41]) ?_
  rw [Try.ntmps41]
  refine go_WireR (k := ?_)
  exact bodyE_ret1 rfl (.int .i64 s.2) rfl ⟨rfl, Ext.rfl' w⟩

set_option maxHeartbeats 8000000 in
theorem rLeft_any (w : World) (g : Nat) (S : Nat → Prop) (s : List UInt8 × Int) (h : RR w g S s) : Calls Try.prog 40 #[.pointer (some ⟨g, 0, none⟩)] w (RetV w (.int .i64 s.1.length)) := by
  refine calls_of_CW Try.func40 rfl (by simp [Try.ntmps40]) ?_
  rw [Try.ntmps40]
  refine go_WireR (k := ?_)
  refine OW_callV Try.func88 (by kernel_rfl) rfl (fine_any w g S s h) rfl ?_
  intro w1 hx
  obtain ⟨A, c, hB, hb, hc, hS⟩ := (h.ext hx).at_
  have m1 : w1.cell? ⟨g, 1, none⟩ = some (.slice A s.1.length c) := hB.cell 1
  by_cases hs : s.2 = 0
  · rw [decide_eq_true hs]
    refine go_WireR (k := ?_)
    exact bodyE_ret1 rfl (.int .i64 s.1.length) rfl ⟨rfl, hx⟩
  · rw [decide_eq_false hs, h.bad hs]
    refine go_WireR (k := ?_)
    exact bodyE_ret1 rfl (.int .i64 0) rfl ⟨rfl, hx⟩

def endE (s : List UInt8 × Int) : Int := if s.2 ≠ 0 then s.2 else if s.1.length = 0 then 0 else 40
set_option maxHeartbeats 8000000 in
theorem rEnd_any (w : World) (g : Nat) (S : Nat → Prop) (s : List UInt8 × Int) (h : RR w g S s) : Calls Try.prog 42 #[.pointer (some ⟨g, 0, none⟩)] w (RetV w (.int .i64 (endE s))) := by
  refine calls_of_CW Try.func42 rfl (by simp [Try.ntmps42]) ?_
  rw [Try.ntmps42]
  refine go_WireR (k := ?_)
  refine OW_callV Try.func41 (by kernel_rfl) rfl (rErr_any w g S s h) rfl ?_
  intro w1 hx
  obtain ⟨A, c, hB, hb, hc, hS⟩ := (h.ext hx).at_
  have m1 : w1.cell? ⟨g, 1, none⟩ = some (.slice A s.1.length c) := hB.cell 1
  refine go_WireR (k := ?_)
  refine CW_cond _ rfl (fun hh => ?_) (fun hh => ?_)
  · have hs : s.2 ≠ 0 := by simpa using hh
    refine go_WireR (k := ?_)
    exact bodyE_ret1 rfl (.int .i64 s.2) rfl ⟨by simp [endE, hs], hx⟩
  · have hs : s.2 = 0 := by simpa using hh
    refine go_WireR (k := ?_)
    refine CW_cond _ rfl (fun h2 => ?_) (fun h2 => ?_)
    · have hl : ¬ s.1.length = 0 := by simp at h2; omega
      refine go_WireR (k := ?_)
      exact bodyE_ret1 rfl (.int .i64 40) rfl ⟨by unfold endE; rw [if_neg (by simpa using hs), if_neg hl], hx⟩
    · have hl : s.1.length = 0 := by simp at h2; simpa using h2
      refine go_WireR (k := ?_)
      exact bodyE_ret1 rfl (.int .i64 0) rfl ⟨by unfold endE; rw [if_neg (by simpa using hs), if_pos hl], hx⟩

set_option maxHeartbeats 8000000 in
theorem rBad_any (w : World) (g : Nat) (S : Nat → Prop) (s : List UInt8 × Int) (h : RR w g S s) : Calls Try.prog 118 #[.pointer (some ⟨g, 0, none⟩)] w (fun en w' => en = .returned (.tuple #[]) ∧ RR w' g S ([], 40) ∧ Keeps w w' (· = g)) := by
  obtain ⟨A, c, hB, hb, hc, hS⟩ := h.at_
  refine calls_of_CW Try.func118 rfl (by simp [Try.ntmps118]) ?_
  rw [Try.ntmps118]
  refine go_WireR (k := ?_)
  refine OW_storeB one_errno rfl (.int .i64 40) rfl rfl hB (by simp) ?_
  intro w2 hB2 hg2
  have hB2 : Blk w2 g 60 #[.bool true, .slice A s.1.length c, .int .i64 40] := hB2
  refine go_WireR (k := ?_)
  refine OW_storeB one_bytes rfl (.slice none 0 0) rfl rfl hB2 (by simp) ?_
  intro w3 hB3 hg3
  have hB3 : Blk w3 g 60 #[.bool true, .slice none 0 0, .int .i64 40] := hB3
  refine go_WireR (k := ?_)
  refine bodyE_end (bodyE_ret0 rfl ?_)
  refine ⟨rfl, ⟨h.in_, ⟨none, 0, hB3, fun j u hu => by simp at hu, Nat.le_refl _, fun ad ha => by cases ha⟩, Nat.zero_le _, fun _ => rfl, fun k hk => Nat.lt_of_lt_of_le (h.bd k hk) (Nat.le_trans hg2.size hg3.size)⟩, ?_⟩
  exact Keeps.trans' (S := (· = g)) (Keeps.of_only hg2 rfl) (Keeps.of_only hg3 rfl)

set_option maxHeartbeats 8000000 in
theorem newReader_any (w : World) (A : Option Addr) (b : List UInt8) (c : Nat) (hb : Bs w A b) (hl : b.length ≤ 1000000) : Calls Try.prog 49 #[.slice A b.length c] w (fun en w' => ∃ g, en = .returned (.pointer (some ⟨g, 0, none⟩)) ∧ w.heap.size ≤ g ∧ Ext w w' ∧ RR w' g (more (fun _ => False) w w') (if 65536 < b.length then ([], 3) else (b, 0))) := by
  refine calls_of_CW Try.func49 rfl (by simp [Try.ntmps49]) ?_
  rw [Try.ntmps49]
  refine go_WireR (k := ?_)
  refine CW_cond _ rfl (fun hh => ?_) (fun hh => ?_)
  · have hl2 : 65536 < b.length := by have h2 := of_decide_eq_true hh; omega
    refine go_WireR (k := ?_)
    refine OW_build _ _ bld_Rlong rfl ?_
    refine go_WireR (k := ?_)
    refine OW_box _ rfl ?_
    intro w1 g hb hg hlt hx
    refine go_WireR (k := ?_)
    refine bodyE_ret1 rfl (.pointer (some ⟨g, 0, none⟩)) rfl ⟨g, rfl, hg, hx, ?_⟩
    rw [if_pos hl2]
    exact ⟨.inr ⟨hg, hlt⟩, ⟨none, 0, hb, fun j u hu => by simp at hu, Nat.le_refl _, fun ad h => by cases h⟩, Nat.zero_le _, fun _ => rfl, fun k hk => by rcases hk with h | h; exact h.elim; exact h.2⟩
  · have hl2 : ¬ 65536 < b.length := by have h2 := of_decide_eq_false hh; omega
    refine go_WireR (k := ?_)
    refine OW_lit [sv (A, c, b)] (by with_reducible exact und_bytess) info_bytes rfl rfl (by simp [sv, Value.oneCell']) (by decide) ?_
    intro w2 g2 hb2 hg2 hx2
    refine go_WireR (k := ?_)
    refine OW_callBs Try.func50 (by kernel_rfl) rfl (cat_any w2 (some ⟨g2, 0, none⟩) 1 [(A, c, b)] (blk_rd _ hb2) (fun x hx => by
      rw [List.mem_singleton] at hx
      subst hx
      exact hb.ext hx2) (by simp) (by simp [flat]; omega)) rfl ?_
    intro w3 A3 c3 hf3
    have hfl : flat [(A, c, b)] = b := by simp [flat]
    rw [hfl] at hf3 ⊢
    refine go_WireR (k := ?_)
    refine OW_build _ _ (fun w => bld_R w A3 b.length c3) rfl ?_
    refine go_WireR (k := ?_)
    refine OW_box _ rfl ?_
    intro w4 g hb4 hg hlt hx4
    have hx := hx2.trans' (hf3.ext.trans' hx4)
    have hs23 := hx2.size
    refine go_WireR (k := ?_)
    refine bodyE_ret1 rfl (.pointer (some ⟨g, 0, none⟩)) rfl ⟨g, rfl, by have := hf3.ext.size; omega, hx, ?_⟩
    rw [if_neg hl2]
    refine ⟨.inr ⟨by have := hf3.ext.size; omega, hlt⟩, ⟨A3, c3, hb4, hf3.bs.ext hx4, hf3.cap, fun ad h => ?_⟩, by show b.length ≤ 65536; omega, fun h => absurd rfl h, fun k hk => by rcases hk with h | h; exact h.elim; exact h.2⟩
    have h1 := own_block hf3.own ad h
    have h2 := hx4.size
    exact ⟨.inr ⟨by omega, by omega⟩, by omega⟩
end Go.Proofs.Ytdpomchhbbopbaa
