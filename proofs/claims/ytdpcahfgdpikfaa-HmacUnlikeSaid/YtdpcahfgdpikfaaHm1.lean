/- Walks: HMAC, the program's and the reference's. -/
import Derived.Test.YtdpcahfgdpikfaaSha5
import Derived.Test.YtdpcahfgdpikfaaSha7
import Derived.Test.YtdpcahfgdpikfaaInc
import Derived.Test.YtdpcahfgdpikfaaHmP
namespace Go.Proofs.Ytdpcahfgdpikfaa
open Go Go.RowKit
set_option linter.unusedVariables false
set_option maxRecDepth 4000
theorem go_Hm1 {A B : Prop} (h : Held B → A := by
  intro hEnd
  repeat (first | refine OW_moveV (.int _ _) rfl ?_ | refine OW_moveV (.slice _ _ _) rfl ?_ | refine OW_moveV (.bool _) rfl ?_ | refine OW_moveV (.pointer _) rfl ?_ | refine OW_moveV (.string _) rfl ?_ | refine OW_moveV (.agg _) rfl ?_ | refine OW_moveV (.tuple _) rfl ?_ | refine OW_nil ?_ | refine thenE_normal ?_ | refine CW_seq ?_ | refine CW_region (by kernel_rfl) ?_ | refine OW_assignV (.int _ _) rfl ?_ | refine OW_assignV (.slice _ _ _) rfl ?_ | refine OW_assignV (.bool _) rfl ?_ | refine OW_assignV (.pointer _) rfl ?_ | refine OW_assignV (.string _) rfl ?_ | refine OW_assignV (.agg _) rfl ?_ | refine OW_assignV (.tuple _) rfl ?_ | refine OW_addI rfl rfl (by omega) ?_ | refine OW_subI rfl rfl (by omega) ?_ | refine OW_mulI rfl rfl (by omega) ?_ | refine OW_lss rfl rfl ?_ | refine OW_extract rfl rfl ?_ | refine OW_gtr rfl rfl ?_ | refine OW_leq rfl rfl ?_ | refine OW_geq rfl rfl ?_ | refine OW_eql rfl rfl ?_ | refine OW_neq rfl rfl ?_ | refine OW_not rfl ?_ | refine OW_pickT rfl _ rfl ?_ | refine OW_pickF rfl (.bool _) rfl ?_ | refine OW_pickB rfl rfl rfl ?_ | refine OW_move ?_ | refine OW_assign ?_ | refine OW_pass rfl ?_ | refine OW_take rfl ?_ | refine OW_lenS (by first | with_reducible exact und_bytes | with_reducible exact und_bytess) rfl ?_ | refine OW_convInt (by first | with_reducible exact und_u8 | with_reducible exact und_u64 | with_reducible exact und_int | with_reducible exact und_u32) (by first | with_reducible exact und_u8 | with_reducible exact und_u64 | with_reducible exact und_int | with_reducible exact und_u32) rfl ?_ | refine OW_add rfl rfl ?_ | refine OW_sub rfl rfl ?_ | refine OW_mul rfl rfl ?_ | refine OW_min2 rfl rfl ?_ | refine OW_max2 rfl rfl ?_ | refine OW_neg rfl ?_ | refine CW_block ?_ | refine CW_condT rfl ?_ | refine CW_condF rfl ?_ | refine CW_exit ?_ | refine CW_ret ?_ | refine CW_skip ?_ | refine LW_seq ?_ | refine LW_regC ?_ | refine LW_condC ?_ | refine LW_regF ?_ | refine LW_condF ?_ | refine FW_seq ?_ | refine FW_region (by kernel_rfl) ?_ | refine FW_block ?_ | refine FW_condT rfl ?_ | refine FW_condF rfl ?_ | refine FW_exit ?_ | refine FW_ret ?_ | refine FW_skip ?_ | refine LW_ret ?_ | refine LW_skip ?_ | refine thenE_exit ?_ | refine thenE_ret ?_ | refine inBlockE_normal ?_ | refine inBlockE_same ?_ | refine inBlockE_ret ?_ | refine inBlockE_ne (by rfl) ?_ | refine OW_eqlB (by with_reducible exact und_bool) rfl rfl ?_ | refine OW_neqB (by with_reducible exact und_bool) rfl rfl ?_ | refine OW_idxS (by with_reducible exact und_bytes) one_u8 rfl rfl _ rfl (by omega) ?_ | refine OW_idxS (by with_reducible exact und_bytess) one_bytes rfl rfl _ rfl (by omega) ?_ | refine OW_load1 (by first | with_reducible exact one_u8 | with_reducible exact one_bytes) rfl _ (by assumption) ?_)
  exact hEnd.out) (k : B) : A := h ⟨k⟩
theorem h_slp_Tag : SlP Try.prog 29 32 := ⟨fun w g => by kernel_rfl⟩
theorem bs_zeros {w : World} {g n : Nat} {T : TypeId} (hb : Blk w g T (Array.replicate n (.int .u8 0))) : Bs w (some ⟨g, 0, none⟩) (List.replicate n 0) := by
  unfold Bs
  have := hb.rd
  rwa [Array.toList_replicate, show List.replicate n (Value.int .u8 0) = (List.replicate n (0 : UInt8)).map bv by rw [List.map_replicate]; rfl] at this
theorem bs_row {w : World} {g : Nat} {T : TypeId} {l : List UInt8} (hb : Blk w g T (l.map bv).toArray) : Bs w (some ⟨g, 0, none⟩) l := by
  unfold Bs
  simpa using hb.rd
set_option maxHeartbeats 8000000 in
theorem hblocks_any (w : World) (A : Option Addr) (c : Nat) (key : List UInt8) (hb : Bs w A key) (hc : key.length ≤ c) (hl : key.length ≤ 100000) :
    Calls Try.prog 67 #[.slice A key.length c] w (fun en w' => ∃ g A4 c4, en = .returned (.func (.func 101) #[] #[.pointer (some ⟨g, 0, none⟩)]) ∧ Blk w' g 22 #[.slice A4 (keyB key).length c4] ∧ Bs w' A4 (keyB key) ∧ Ext w w') := by
  refine calls_of_CW Try.func67 rfl (by simp [Try.ntmps67]) ?_
  rw [Try.ntmps67]
  refine go_Hm1 (k := ?_)
  refine CW_meet (fun e' w' => ∃ A' c', e' 0 = .slice A' (keyK key).length c' ∧ Bs w' A' (keyK key) ∧ Ext w w') ?_ ?_
  · refine CW_cond _ rfl (fun h => ?_) (fun h => ?_)
    · have hlt : 64 < key.length := by simp at h; omega
      have hk : keyK key = shaL key := by unfold keyK; rw [if_pos hlt]
      refine go_Hm1 (k := ?_)
      refine OW_callV Try.func19 (by kernel_rfl) rfl (shaSum_any w A c key hb (by omega)) rfl ?_
      intro w1 hx1
      refine go_Hm1 (k := ?_)
      refine OW_allocA s_agg_Tag ?_
      intro w2 g3 hb3 hg3 hl3 hx2
      refine go_Hm1 (k := ?_)
      refine OW_storeA s_agg_Tag rfl ((shaL key).map bv) rfl (by rw [List.length_map, shaL_length]) hb3 rfl (bv_one _) ?_
      intro w3 hb3' hgr
      refine go_Hm1 (k := ?_)
      refine OW_sliceP h_slp_Tag rfl ?_
      refine go_Hm1 (k := ?_)
      refine ⟨rfl, some ⟨g3, 0, none⟩, 32, by rw [hk, shaL_length]; rfl, by rw [hk]; exact bs_row hb3', below_only (hx1.trans' hx2) hgr (by have := hx1.size; omega) (hx1.trans' hx2).size⟩
    · have hle : key.length ≤ 64 := by simp at h; omega
      have hk : keyK key = key := by unfold keyK; rw [if_neg (by omega)]
      refine go_Hm1 (k := ?_)
      exact ⟨rfl, A, c, by rw [hk]; rfl, by rw [hk]; exact hb, Ext.rfl' _⟩
  rintro e' w' ⟨A', c', q0, hbk, hx⟩
  rw [upd_self q0]
  have hkl := keyK_length key
  have hkb : keyB key = keyK key ++ List.replicate (64 - (keyK key).length) 0 := rfl
  refine go_Hm1 (k := ?_)
  refine OW_make und_bytes info_u8 rfl rfl rfl (show 64 - ((keyK key).length : Int) = ((64 - (keyK key).length : Nat) : Int) by omega) (by omega) (by omega) (by unfold maxLen; omega) ?_
  intro w4 g4 hb4 hg4 hx4
  have hz := bs_zeros hb4
  refine go_Hm1 (k := ?_)
  refine OW_lit [.slice A' (keyK key).length c', .slice (some ⟨g4, 0, none⟩) (64 - (keyK key).length) (64 - (keyK key).length)] und_bytess info_bytes rfl rfl (by simp [Value.oneCell']) (by decide) ?_
  intro w5 g5 hb5 hg5 hx5
  have hcat := cat_any w5 (some ⟨g5, 0, none⟩) 2 [(A', c', keyK key), (some ⟨g4, 0, none⟩, 64 - (keyK key).length, List.replicate (64 - (keyK key).length) 0)] (by
      have := hb5.rd
      simpa [sv] using this) (fun x hx => by
      simp only [List.mem_cons, List.not_mem_nil, or_false] at hx
      rcases hx with rfl | rfl
      · exact (hbk.ext hx4).ext hx5
      · exact hz.ext hx5) (by simp) (by simp [flat]; omega)
  rw [show flat [(A', c', keyK key), (some ⟨g4, 0, none⟩, 64 - (keyK key).length, List.replicate (64 - (keyK key).length) 0)] = keyB key by rw [hkb]; simp [flat]] at hcat
  refine go_Hm1 (k := ?_)
  refine OW_callBs Try.func20 (by kernel_rfl) rfl hcat rfl ?_
  intro w6 A6 c6 hf6
  refine go_Hm1 (k := ?_)
  refine OW_alloc1 (.slice none 0 0) (fun w => by kernel_rfl) ?_
  intro w7 g7 hb7 hg7 hl7 hx7
  refine go_Hm1 (k := ?_)
  refine OW_storeB one_bytes rfl (.slice A6 (keyB key).length c6) rfl rfl hb7 (Nat.one_pos) ?_
  intro w8 hb8 hgr
  refine go_Hm1 (k := ?_)
  refine OW_mkFunc [.pointer (some ⟨g7, 0, none⟩)] rfl ?_
  refine go_Hm1 (k := ?_)
  have hx06 := ((hx.trans' hx4).trans' hx5).trans' hf6.ext
  have hk6 : Keeps w7 w8 (· = g7) := Keeps.of_only hgr rfl
  exact bodyE_ret1 rfl _ rfl ⟨g7, A6, c6, rfl, hb8, (hf6.bs.ext hx7).keeps hk6 (fun ad ha => by have := own_block hf6.own ad ha; omega), below_only (hx06.trans' hx7) hgr (by have := hx06.size; omega) (hx06.trans' hx7).size⟩
def xorT (x : UInt8) (l : List UInt8) (k : Nat) : List UInt8 := (l.take k).map (· ^^^ x) ++ l.drop k
theorem xorT_length (x : UInt8) (l : List UInt8) (k : Nat) : (xorT x l k).length = l.length := by simp [xorT]; omega
theorem xorT_get {x : UInt8} {l : List UInt8} {k : Nat} (h : k < l.length) : (xorT x l k)[k]'(by rw [xorT_length]; exact h) = l[k] := by
  unfold xorT
  rw [List.getElem_append_right (by simp; omega)]
  simp [Nat.min_eq_left (Nat.le_of_lt h)]
theorem xorT_set {x : UInt8} {l : List UInt8} {k : Nat} (h : k < l.length) : (xorT x l k).set k (l[k] ^^^ x) = xorT x l (k + 1) := by
  unfold xorT
  rw [List.set_append_right _ _ (by simp; omega)]
  rw [take_succ_get _ _ h, List.map_append, List.append_assoc]
  simp [Nat.min_eq_left (Nat.le_of_lt h)]
  rw [List.drop_eq_getElem_cons h]
  rfl
set_option maxHeartbeats 8000000 in
theorem hb1_any (w : World) (x : UInt8) (g : Nat) (A : Option Addr) (c : Nat) (K : List UInt8) (hg : Blk w g 22 #[.slice A K.length c]) (hb : Bs w A K) (hl : K.length ≤ 100000) :
    Calls Try.prog 101 #[.int .u8 (x.toNat : Int), .pointer (some ⟨g, 0, none⟩)] w (RetBs 5 w (xorB x K)) := by
  refine calls_of_CW Try.func101 rfl (by simp [Try.ntmps101]) ?_
  rw [Try.ntmps101]
  refine go_Hm1 (k := ?_)
  refine OW_isLoad ?_
  refine OW_loadBk one_bytes rfl hg (.slice A K.length c) rfl ?_
  refine go_Hm1 (k := ?_)
  refine OW_lit [.slice A K.length c] und_bytess info_bytes rfl rfl (by simp [Value.oneCell']) (by decide) ?_
  intro w1 g1 hb1 hg1 hx1
  have hcat := cat_any w1 (some ⟨g1, 0, none⟩) 1 [(A, c, K)] (by
      have := hb1.rd
      simpa [sv] using this) (fun x hx => by
      simp only [List.mem_cons, List.not_mem_nil, or_false] at hx
      subst hx
      exact hb.ext hx1) (by simp) (by simp [flat]; omega)
  rw [show flat [(A, c, K)] = K by simp [flat]] at hcat
  refine go_Hm1 (k := ?_)
  refine OW_callBs Try.func20 (by kernel_rfl) rfl hcat rfl ?_
  intro w2 A2 c2 hf2
  have hx02 := hx1.trans' hf2.ext
  have ho := own_mono hf2.own hx1.size
  refine go_Hm1 (k := ?_)
  refine CW_meetB (fun e' w' => e' 4 = .slice A2 K.length c2 ∧ w'.ownsRow w.heap.size 5 1 (.slice A2 K.length c2) K.length ((xorB x K).map bv) ∧ Ext w w') ?_ ?_
  · refine CW_loop (fun e' w' => ∃ k : Nat, k ≤ K.length ∧ e' 0 = .int .u8 (x.toNat : Int) ∧ e' 4 = .slice A2 K.length c2 ∧ e' 10 = .int .i64 K.length ∧ e' 11 = .int .i64 k ∧ w'.ownsRow w.heap.size 5 1 (.slice A2 K.length c2) K.length ((xorT x K k).map bv) ∧ Ext w w') (fun e' _ => K.length - (intOf (e' 11)).toNat) ?_ ?_
    · exact ⟨0, by omega, rfl, rfl, rfl, rfl, by simpa [xorT] using ho, hx02⟩
    rintro e' w' ⟨k, hk, q0, q4, q10, q11, ho, hx⟩
    rw [upd_self q0, upd_self q4, upd_self q10, upd_self q11]
    refine go_Hm1 (k := ?_)
    refine CW_cond _ rfl (fun h => ?_) (fun h => ?_)
    · have hlt : k < K.length := by simpa using h
      obtain ⟨g2, cur, hA, hg2, _⟩ := own_blk ho (by omega)
      subst hA
      have hcell := inc_cell ho (xorT_length x K k) hlt
      have hst := inc_step ho (xorT_length x K k) hlt (K[k] ^^^ x)
      rw [xorT_get hlt] at hcell
      rw [xorT_set hlt] at hst
      refine go_Hm1 (k := ?_)
      refine OW_xor rfl rfl _ (xor_bv _ _) ?_
      refine go_Hm1 (k := ?_)
      rw [add0] at hcell ⊢
      refine OW_store1 one_u8 rfl (bv (K[k] ^^^ x)) (bv K[k]) rfl rfl hcell (ho.frozenAt k) ?_
      refine go_Hm1 (k := ?_)
      refine ⟨⟨k + 1, hlt, rfl, rfl, rfl, rfl, hst.1, below_only hx hst.2 hg2 hx.size⟩, ?_⟩
      show K.length - ((k : Int) + 1).toNat < K.length - (k : Int).toNat
      omega
    · have hge : k = K.length := by simp at h; omega
      subst hge
      refine go_Hm1 (k := ?_)
      refine ⟨rfl, rfl, ?_, hx⟩
      have : xorT x K K.length = xorB x K := by simp [xorT, xorB]
      rw [← this]; exact ho
  rintro e' w' ⟨q4, ho, hx⟩
  rw [upd_self q4]
  have hn : K.length = (xorB x K).length := (xorB_length x K).symm
  rw [hn] at ho ⊢
  refine go_Hm1 (k := ?_)
  exact bodyE_ret1 rfl (.slice A2 _ c2) rfl ⟨A2, c2, rfl, ho, hx⟩
end Go.Proofs.Ytdpcahfgdpikfaa
