/- Walks: HMAC, the reference's blocks and bytes. -/
import Derived.Test.YtdpcahfgdpikfaaHm1
namespace Go.Proofs.Ytdpcahfgdpikfaa
open Go Go.RowKit
set_option linter.unusedVariables false
set_option maxRecDepth 4000
theorem go_Hm2 {A B : Prop} (h : Held B → A := by
  intro hEnd
  repeat (first | refine OW_sliceP h_slp_Tag rfl ?_ | refine OW_idxAI s_und_Tag one_u8 rfl rfl (by omega) (by omega) ?_ | refine OW_moveV (.int _ _) rfl ?_ | refine OW_moveV (.slice _ _ _) rfl ?_ | refine OW_moveV (.bool _) rfl ?_ | refine OW_moveV (.pointer _) rfl ?_ | refine OW_moveV (.string _) rfl ?_ | refine OW_moveV (.agg _) rfl ?_ | refine OW_moveV (.tuple _) rfl ?_ | refine OW_nil ?_ | refine thenE_normal ?_ | refine CW_seq ?_ | refine CW_region (by kernel_rfl) ?_ | refine OW_assignV (.int _ _) rfl ?_ | refine OW_assignV (.slice _ _ _) rfl ?_ | refine OW_assignV (.bool _) rfl ?_ | refine OW_assignV (.pointer _) rfl ?_ | refine OW_assignV (.string _) rfl ?_ | refine OW_assignV (.agg _) rfl ?_ | refine OW_assignV (.tuple _) rfl ?_ | refine OW_addI rfl rfl (by omega) ?_ | refine OW_subI rfl rfl (by omega) ?_ | refine OW_mulI rfl rfl (by omega) ?_ | refine OW_lss rfl rfl ?_ | refine OW_extract rfl rfl ?_ | refine OW_gtr rfl rfl ?_ | refine OW_leq rfl rfl ?_ | refine OW_geq rfl rfl ?_ | refine OW_eql rfl rfl ?_ | refine OW_neq rfl rfl ?_ | refine OW_not rfl ?_ | refine OW_pickT rfl _ rfl ?_ | refine OW_pickF rfl (.bool _) rfl ?_ | refine OW_pickB rfl rfl rfl ?_ | refine OW_move ?_ | refine OW_assign ?_ | refine OW_pass rfl ?_ | refine OW_take rfl ?_ | refine OW_lenS (by first | with_reducible exact und_bytes | with_reducible exact und_bytess) rfl ?_ | refine OW_convInt (by first | with_reducible exact und_u8 | with_reducible exact und_u64 | with_reducible exact und_int | with_reducible exact und_u32) (by first | with_reducible exact und_u8 | with_reducible exact und_u64 | with_reducible exact und_int | with_reducible exact und_u32) rfl ?_ | refine OW_add rfl rfl ?_ | refine OW_sub rfl rfl ?_ | refine OW_mul rfl rfl ?_ | refine OW_min2 rfl rfl ?_ | refine OW_max2 rfl rfl ?_ | refine OW_neg rfl ?_ | refine CW_block ?_ | refine CW_condT rfl ?_ | refine CW_condF rfl ?_ | refine CW_exit ?_ | refine CW_ret ?_ | refine CW_skip ?_ | refine LW_seq ?_ | refine LW_regC ?_ | refine LW_condC ?_ | refine LW_regF ?_ | refine LW_condF ?_ | refine FW_seq ?_ | refine FW_region (by kernel_rfl) ?_ | refine FW_block ?_ | refine FW_condT rfl ?_ | refine FW_condF rfl ?_ | refine FW_exit ?_ | refine FW_ret ?_ | refine FW_skip ?_ | refine LW_ret ?_ | refine LW_skip ?_ | refine thenE_exit ?_ | refine thenE_ret ?_ | refine inBlockE_normal ?_ | refine inBlockE_same ?_ | refine inBlockE_ret ?_ | refine inBlockE_ne (by rfl) ?_ | refine OW_eqlB (by with_reducible exact und_bool) rfl rfl ?_ | refine OW_neqB (by with_reducible exact und_bool) rfl rfl ?_ | refine OW_idxS (by with_reducible exact und_bytes) one_u8 rfl rfl _ rfl (by omega) ?_ | refine OW_idxS (by with_reducible exact und_bytess) one_bytes rfl rfl _ rfl (by omega) ?_ | refine OW_load1 (by first | with_reducible exact one_u8 | with_reducible exact one_bytes) rfl _ (by assumption) ?_)
  exact hEnd.out) (k : B) : A := h ⟨k⟩
set_option maxHeartbeats 8000000 in
theorem refBytes_any (w : World) (t : List UInt8) (ht : t.length = 32) :
    Calls Try.prog 105 #[.agg (t.map bv).toArray] w (RetBs 5 w t) := by
  refine calls_of_CW Try.func105 rfl (by simp [Try.ntmps105]) ?_
  rw [Try.ntmps105]
  refine go_Hm2 (k := ?_)
  refine OW_box _ rfl ?_
  intro w1 g1 hb1 hg1 hl1 hx1
  replace hb1 : Blk w1 g1 29 (t.map bv).toArray := hb1
  refine go_Hm2 (k := ?_)
  refine CW_meetB (fun e' w' => ∃ A2 c2, e' 3 = .slice A2 32 c2 ∧ w'.ownsRow w1.heap.size 5 1 (.slice A2 32 c2) 32 (t.map bv) ∧ Ext w1 w') ?_ ?_
  · refine CW_loop (fun e' w' => ∃ (k : Nat) (A2 : Option Addr) (c2 : Nat), k ≤ 32 ∧ e' 1 = .pointer (some ⟨g1, 0, none⟩) ∧ e' 4 = .int .i64 k ∧ e' 3 = .slice A2 k c2 ∧ w'.ownsRow w1.heap.size 5 1 (.slice A2 k c2) k ((t.take k).map bv) ∧ Ext w1 w') (fun e' _ => 32 - (intOf (e' 4)).toNat) ?_ ?_
    · exact ⟨0, none, 0, by omega, rfl, rfl, rfl, World.ownsRow_nil _ _ _ _, Ext.rfl' _⟩
    rintro e' w' ⟨k, A2, c2, hk, q1, q4, q3, ho, hx⟩
    rw [upd_self q1, upd_self q4, upd_self q3]
    refine go_Hm2 (k := ?_)
    refine CW_cond _ rfl (fun h => ?_) (fun h => ?_)
    · have hlt : k < 32 := by simp at h; omega
      clear h
      refine go_Hm2 (k := ?_)
      have hget : (t.map bv).toArray[((k : Nat) : Int).toNat]? = some (bv (t[k]'(by omega))) := by
        rw [show ((k : Nat) : Int).toNat = k by omega]
        simp [List.getElem?_eq_getElem (show k < t.length by omega)]
      refine OW_isLoad ?_
      refine OW_loadBk one_u8 rfl (hb1.ext hx) (bv (t[k]'(by omega))) hget ?_
      refine OW_lit [bv (t[k]'(by omega))] und_bytes info_u8 rfl rfl (by simp [bv, Value.oneCell']) (by decide) ?_
      intro w4 g4 hb4 hg4 hx4
      refine go_Hm2 (k := ?_)
      refine OW_append und_bytes info_u8 rfl rfl rfl (own_ext ho hx4) hb4.rd rfl (by simp [bv, Value.oneCell']) (by unfold maxLen; omega) (by omega) (by have := hx.size; have := hx4.size; omega) ?_
      intro w5 A5 c5 ho5 hx5
      refine go_Hm2 (k := ?_)
      refine ⟨⟨k + 1, A5, c5, hlt, rfl, rfl, rfl, ?_, (hx.trans' hx4).trans hx5⟩, ?_⟩
      · rw [take_succ_get t k (by omega), List.map_append]
        exact ho5
      · show 32 - ((k : Int) + 1).toNat < 32 - (k : Int).toNat
        omega
    · have hge : k = 32 := by simp at h; omega
      subst hge
      rw [List.take_of_length_le (by omega)] at ho
      refine go_Hm2 (k := ?_)
      exact ⟨rfl, A2, c2, rfl, ho, hx⟩
  rintro e' w' ⟨A2, c2, q3, ho, hx⟩
  rw [upd_self q3]
  rw [show (32 : Nat) = t.length from ht.symm] at ho ⊢
  refine go_Hm2 (k := ?_)
  exact bodyE_ret1 rfl (.slice A2 _ c2) rfl ⟨A2, c2, rfl, own_mono ho hx1.size, hx1.trans' hx⟩
theorem keyB_get {key : List UInt8} {k : Nat} (h : k < 64) : (keyB key)[k]'(by rw [keyB_length]; exact h) = if hk : k < (keyK key).length then (keyK key)[k] else 0 := by
  unfold keyB
  split
  · rename_i hk; rw [List.getElem_append_left hk]
  · rename_i hk; rw [List.getElem_append_right (by omega)]; simp
set_option maxHeartbeats 8000000 in
theorem refBlock_any (w : World) (A : Option Addr) (c : Nat) (key : List UInt8) (x : UInt8) (hb : Bs w A key) (hl : key.length ≤ 100000) :
    Calls Try.prog 104 #[.slice A key.length c, .int .u8 (x.toNat : Int)] w (RetBs 5 w (xorB x (keyB key))) := by
  refine calls_of_CW Try.func104 rfl (by simp [Try.ntmps104]) ?_
  rw [Try.ntmps104]
  refine go_Hm2 (k := ?_)
  refine CW_meet (fun e' w' => ∃ A' c', e' 0 = .slice A' (keyK key).length c' ∧ e' 1 = .int .u8 (x.toNat : Int) ∧ Bs w' A' (keyK key) ∧ Ext w w') ?_ ?_
  · refine CW_cond _ rfl (fun h => ?_) (fun h => ?_)
    · have hlt : 64 < key.length := by simp at h; omega
      have hk : keyK key = shaL key := by unfold keyK; rw [if_pos hlt]
      refine go_Hm2 (k := ?_)
      refine OW_callV Try.func24 (by kernel_rfl) rfl (refSum_any w A c key hb (by omega)) rfl ?_
      intro w1 hx1
      refine go_Hm2 (k := ?_)
      refine OW_callBs Try.func105 (by kernel_rfl) rfl (refBytes_any w1 (shaL key) (shaL_length _)) rfl ?_
      intro w2 A2 c2 hf2
      refine go_Hm2 (k := ?_)
      exact ⟨rfl, A2, c2, by rw [hk]; rfl, rfl, by rw [hk]; exact hf2.bs, hx1.trans' hf2.ext⟩
    · have hle : key.length ≤ 64 := by simp at h; omega
      have hk : keyK key = key := by unfold keyK; rw [if_neg (by omega)]
      refine go_Hm2 (k := ?_)
      exact ⟨rfl, A, c, by rw [hk]; rfl, rfl, by rw [hk]; exact hb, Ext.rfl' _⟩
  rintro e' w1 ⟨A', c', q0, q1, hbk, hx1⟩
  rw [upd_self q0, upd_self q1]
  have hkl := keyK_length key
  have hBl := keyB_length key
  have hXl := xorB_length x (keyB key)
  refine go_Hm2 (k := ?_)
  refine CW_meetB (fun e' w' => ∃ A2 c2, e' 5 = .slice A2 64 c2 ∧ w'.ownsRow w1.heap.size 5 1 (.slice A2 64 c2) 64 ((xorB x (keyB key)).map bv) ∧ Ext w1 w') ?_ ?_
  · refine CW_loop (fun e' w' => ∃ (k : Nat) (A2 : Option Addr) (c2 : Nat), k ≤ 64 ∧ e' 0 = .slice A' (keyK key).length c' ∧ e' 1 = .int .u8 (x.toNat : Int) ∧ e' 6 = .int .i64 k ∧ e' 5 = .slice A2 k c2 ∧ w'.ownsRow w1.heap.size 5 1 (.slice A2 k c2) k (((xorB x (keyB key)).take k).map bv) ∧ Ext w1 w') (fun e' _ => 64 - (intOf (e' 6)).toNat) ?_ ?_
    · exact ⟨0, none, 0, by omega, rfl, rfl, rfl, rfl, World.ownsRow_nil _ _ _ _, Ext.rfl' _⟩
    rintro e' w' ⟨k, A2, c2, hk, q0, q1, q6, q5, ho, hx⟩
    have hbk' := hbk.ext hx
    rw [upd_self q0, upd_self q1, upd_self q6, upd_self q5]
    refine go_Hm2 (k := ?_)
    refine CW_cond _ rfl (fun h => ?_) (fun h => ?_)
    · have hlt : k < 64 := by simp at h; omega
      clear h
      refine go_Hm2 (k := ?_)
      refine CW_meet (fun e' w'' => e' 0 = .slice A' (keyK key).length c' ∧ e' 1 = .int .u8 (x.toNat : Int) ∧ e' 6 = .int .i64 k ∧ e' 5 = .slice A2 k c2 ∧ e' 7 = .int .u8 (((keyB key)[k]'(by omega)).toNat : Int) ∧ w'' = w') ?_ ?_
      · refine CW_cond _ rfl (fun h => ?_) (fun h => ?_)
        · have hlk : k < (keyK key).length := by simpa using h
          obtain ⟨ad, hA1, hcA⟩ := hbk'.at_ hlk
          subst hA1
          have hg := keyB_get (key := key) hlt
          rw [dif_pos hlk] at hg
          rw [← hg] at hcA
          refine go_Hm2 (k := ?_)
          exact ⟨rfl, rfl, rfl, rfl, rfl, rfl, rfl⟩
        · have hlk : ¬ k < (keyK key).length := by simpa using h
          have hg := keyB_get (key := key) hlt
          rw [dif_neg hlk] at hg
          refine go_Hm2 (k := ?_)
          exact ⟨rfl, rfl, rfl, rfl, rfl, by rw [hg]; rfl, rfl⟩
      rintro e'' w'' ⟨q0, q1, q6, q5, q7, rfl⟩
      rw [upd_self q0, upd_self q1, upd_self q6, upd_self q5, upd_self q7]
      have hXg : (xorB x (keyB key))[k]'(by omega) = (keyB key)[k]'(by omega) ^^^ x := by simp [xorB]
      refine go_Hm2 (k := ?_)
      refine OW_xor rfl rfl _ (xor_bv _ _) ?_
      rw [← hXg]
      refine go_Hm2 (k := ?_)
      refine OW_lit [bv ((xorB x (keyB key))[k]'(by omega))] und_bytes info_u8 rfl rfl (by simp [bv, Value.oneCell']) (by decide) ?_
      intro w4 g4 hb4 hg4 hx4
      refine go_Hm2 (k := ?_)
      refine OW_append und_bytes info_u8 rfl rfl rfl (own_ext ho hx4) hb4.rd rfl (by simp [bv, Value.oneCell']) (by unfold maxLen; omega) (by omega) (by have := hx.size; have := hx4.size; omega) ?_
      intro w5 A5 c5 ho5 hx5
      refine go_Hm2 (k := ?_)
      refine ⟨⟨k + 1, A5, c5, hlt, rfl, rfl, rfl, rfl, ?_, (hx.trans' hx4).trans hx5⟩, ?_⟩
      · rw [take_succ_get (xorB x (keyB key)) k (by omega), List.map_append]
        exact ho5
      · show 64 - ((k : Int) + 1).toNat < 64 - (k : Int).toNat
        omega
    · have hge : k = 64 := by simp at h; omega
      subst hge
      rw [List.take_of_length_le (by omega)] at ho
      refine go_Hm2 (k := ?_)
      exact ⟨rfl, A2, c2, rfl, ho, hx⟩
  rintro e' w' ⟨A2, c2, q5, ho, hx⟩
  rw [upd_self q5]
  rw [show (64 : Nat) = (xorB x (keyB key)).length by omega] at ho ⊢
  refine go_Hm2 (k := ?_)
  exact bodyE_ret1 rfl (.slice A2 _ c2) rfl ⟨A2, c2, rfl, own_mono ho hx1.size, hx1.trans' hx⟩
end Go.Proofs.Ytdpcahfgdpikfaa
