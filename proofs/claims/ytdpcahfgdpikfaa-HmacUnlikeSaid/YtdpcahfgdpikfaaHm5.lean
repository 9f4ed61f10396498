/- Walk: HMAC's examples. -/
import Derived.Test.YtdpcahfgdpikfaaHm4
import Derived.Test.YtdpcahfgdpikfaaShaK
namespace Go.Proofs.Ytdpcahfgdpikfaa
open Go Go.RowKit
set_option linter.unusedVariables false
set_option maxRecDepth 4000
theorem go_Hm5 {A B : Prop} (h : Held B → A := by
  intro hEnd
  repeat (first | refine OW_idxAI s_und_Tag one_u8 rfl rfl (by decide) (by decide) ?_ | (refine OW_isLoad ?_; refine OW_loadBk one_u8 rfl (by assumption) _ (by assumption) ?_) | (refine OW_isLoad ?_; refine OW_loadT s_agg_Tag rfl (by assumption) (by assumption) ?_) | refine OW_moveV (.int _ _) rfl ?_ | refine OW_moveV (.slice _ _ _) rfl ?_ | refine OW_moveV (.bool _) rfl ?_ | refine OW_moveV (.pointer _) rfl ?_ | refine OW_moveV (.string _) rfl ?_ | refine OW_moveV (.agg _) rfl ?_ | refine OW_moveV (.tuple _) rfl ?_ | refine OW_nil ?_ | refine thenE_normal ?_ | refine CW_seq ?_ | refine CW_region (by kernel_rfl) ?_ | refine OW_assignV (.int _ _) rfl ?_ | refine OW_assignV (.slice _ _ _) rfl ?_ | refine OW_assignV (.bool _) rfl ?_ | refine OW_assignV (.pointer _) rfl ?_ | refine OW_assignV (.string _) rfl ?_ | refine OW_assignV (.agg _) rfl ?_ | refine OW_assignV (.tuple _) rfl ?_ | refine OW_addI rfl rfl (by omega) ?_ | refine OW_subI rfl rfl (by omega) ?_ | refine OW_mulI rfl rfl (by omega) ?_ | refine OW_lss rfl rfl ?_ | refine OW_extract rfl rfl ?_ | refine OW_gtr rfl rfl ?_ | refine OW_leq rfl rfl ?_ | refine OW_geq rfl rfl ?_ | refine OW_eql rfl rfl ?_ | refine OW_neq rfl rfl ?_ | refine OW_not rfl ?_ | refine OW_pickT rfl _ rfl ?_ | refine OW_pickF rfl (.bool _) rfl ?_ | refine OW_pickB rfl rfl rfl ?_ | refine OW_move ?_ | refine OW_assign ?_ | refine OW_pass rfl ?_ | refine OW_take rfl ?_ | refine OW_lenS (by first | with_reducible exact und_bytes | with_reducible exact und_bytess) rfl ?_ | refine OW_convInt (by first | with_reducible exact und_u8 | with_reducible exact und_u64 | with_reducible exact und_int | with_reducible exact und_u32) (by first | with_reducible exact und_u8 | with_reducible exact und_u64 | with_reducible exact und_int | with_reducible exact und_u32) rfl ?_ | refine OW_add rfl rfl ?_ | refine OW_sub rfl rfl ?_ | refine OW_mul rfl rfl ?_ | refine OW_min2 rfl rfl ?_ | refine OW_max2 rfl rfl ?_ | refine OW_neg rfl ?_ | refine CW_block ?_ | refine CW_condT rfl ?_ | refine CW_condF rfl ?_ | refine CW_exit ?_ | refine CW_ret ?_ | refine CW_skip ?_ | refine LW_seq ?_ | refine LW_regC ?_ | refine LW_condC ?_ | refine LW_regF ?_ | refine LW_condF ?_ | refine FW_seq ?_ | refine FW_region (by kernel_rfl) ?_ | refine FW_block ?_ | refine FW_condT rfl ?_ | refine FW_condF rfl ?_ | refine FW_exit ?_ | refine FW_ret ?_ | refine FW_skip ?_ | refine LW_ret ?_ | refine LW_skip ?_ | refine thenE_exit ?_ | refine thenE_ret ?_ | refine inBlockE_normal ?_ | refine inBlockE_same ?_ | refine inBlockE_ret ?_ | refine inBlockE_ne (by rfl) ?_ | refine OW_eqlB (by with_reducible exact und_bool) rfl rfl ?_ | refine OW_neqB (by with_reducible exact und_bool) rfl rfl ?_ | refine OW_idxS (by with_reducible exact und_bytes) one_u8 rfl rfl _ rfl (by omega) ?_ | refine OW_idxS (by with_reducible exact und_bytess) one_bytes rfl rfl _ rfl (by omega) ?_ | refine OW_load1 (by first | with_reducible exact one_u8 | with_reducible exact one_bytes) rfl _ (by assumption) ?_)
  exact hEnd.out) (k : B) : A := h ⟨k⟩
def key0 : List UInt8 := List.replicate 20 11
def hiT : List UInt8 := [72, 105, 32, 84, 104, 101, 114, 101]
def key1 : List UInt8 := [74, 101, 102, 101]
def whatB : List UInt8 := [119, 104, 97, 116, 32, 100, 111, 32, 121, 97, 32, 119, 97, 110, 116, 32, 102, 111, 114, 32, 110, 111, 116, 104, 105, 110, 103, 63]
theorem hm_a : hmacL key0 hiT = [0xb0, 0x34, 0x4c, 0x61, 0xd8, 0xdb, 0x38, 0x53, 0x5c, 0xa8, 0xaf, 0xce, 0xaf, 0x0b, 0xf1, 0x2b, 0x88, 0x1d, 0xc2, 0x00, 0xc9, 0x83, 0x3d, 0xa7, 0x26, 0xe9, 0x37, 0x6c, 0x2e, 0x32, 0xcf, 0xf7] := by
  rw [← hmacK_eq]; decide +kernel
theorem hm_b : hmacL key1 whatB = [0x5b, 0xdc, 0xc1, 0x46, 0xbf, 0x60, 0x75, 0x4e, 0x6a, 0x04, 0x24, 0x26, 0x08, 0x95, 0x75, 0xc7, 0x5a, 0x00, 0x3f, 0x08, 0x9d, 0x27, 0x39, 0x83, 0x9d, 0xec, 0x58, 0xb9, 0x64, 0xec, 0x38, 0x43] := by
  rw [← hmacK_eq]; decide +kernel
set_option maxHeartbeats 8000000 in
theorem awake3_any (w : World) : Calls Try.prog 14 #[] w (RetV w (.bool true)) := by
  obtain ⟨la, hla⟩ : ∃ la, hmacL key0 hiT = la := ⟨_, rfl⟩
  obtain ⟨lb, hlb⟩ : ∃ lb, hmacL key1 whatB = lb := ⟨_, rfl⟩
  have hA := fun (w : World) (A B : Option Addr) (ha : Bs w A key0) (hb : Bs w B hiT) => hmacSum_any w A B 20 8 key0 hiT ha (by decide) (by decide) hb (by decide)
  have hB := fun (w : World) (A B : Option Addr) (ha : Bs w A key1) (hb : Bs w B whatB) => hmacSum_any w A B 4 28 key1 whatB ha (by decide) (by decide) hb (by decide)
  rw [hla] at hA
  rw [hlb] at hB
  rw [hm_a] at hla
  rw [hm_b] at hlb
  have ka0 : (la.map bv).toArray[(0 : Int).toNat]? = some (.int .u8 176) := by rw [← hla]; rfl
  have ka1 : (la.map bv).toArray[(1 : Int).toNat]? = some (.int .u8 52) := by rw [← hla]; rfl
  have ka2 : (la.map bv).toArray[(30 : Int).toNat]? = some (.int .u8 207) := by rw [← hla]; rfl
  have ka3 : (la.map bv).toArray[(31 : Int).toNat]? = some (.int .u8 247) := by rw [← hla]; rfl
  have kb0 : (lb.map bv).toArray[(0 : Int).toNat]? = some (.int .u8 91) := by rw [← hlb]; rfl
  have kb1 : (lb.map bv).toArray[(1 : Int).toNat]? = some (.int .u8 220) := by rw [← hlb]; rfl
  have kb2 : (lb.map bv).toArray[(30 : Int).toNat]? = some (.int .u8 56) := by rw [← hlb]; rfl
  have kb3 : (lb.map bv).toArray[(31 : Int).toNat]? = some (.int .u8 67) := by rw [← hlb]; rfl
  have hll : la.length = 32 := by rw [← hla]; rfl
  have hlb2 : lb.length = 32 := by rw [← hlb]; rfl
  have hab : (la == lb) = false := by rw [← hla, ← hlb]; rfl
  clear hla hlb
  refine calls_of_CW Try.func14 rfl (by simp [Try.ntmps14]) ?_
  rw [Try.ntmps14]
  refine go_Hm5 (k := ?_)
  refine OW_make und_bytes info_u8 rfl rfl rfl rfl (n := 20) rfl (by decide) (by decide) ?_
  intro w1 g1 hb1 hg1 hx1
  have ho1 : w1.ownsRow w.heap.size 5 1 (.slice (some ⟨g1, 0, none⟩) 20 20) 20 ((List.replicate 0 (11 : UInt8) ++ List.replicate (20 - 0) 0).map bv) := own_of_blk hg1 hb1 rfl (Nat.le_refl _) (by decide) rfl
  refine go_Hm5 (k := ?_)
  refine CW_meetB (fun e' w' => e' 1 = .slice (some ⟨g1, 0, none⟩) 20 20 ∧ Bs w' (some ⟨g1, 0, none⟩) key0 ∧ Ext w w') ?_ ?_
  · refine CW_loop (fun e' w' => ∃ k : Nat, k ≤ 20 ∧ e' 1 = .slice (some ⟨g1, 0, none⟩) 20 20 ∧ e' 2 = .int .i64 k ∧ w'.ownsRow w.heap.size 5 1 (.slice (some ⟨g1, 0, none⟩) 20 20) 20 ((List.replicate k (11 : UInt8) ++ List.replicate (20 - k) 0).map bv) ∧ Ext w w') (fun e' _ => 20 - (intOf (e' 2)).toNat) ?_ ?_
    · exact ⟨0, by omega, rfl, rfl, ho1, hx1⟩
    rintro e' w' ⟨k, hk, q1, q2, ho, hx⟩
    rw [upd_self q1, upd_self q2]
    refine go_Hm5 (k := ?_)
    refine CW_cond _ rfl (fun h => ?_) (fun h => ?_)
    · have hlt : k < 20 := by simp at h; omega
      clear h
      have hz : (List.replicate k (11 : UInt8) ++ List.replicate (20 - k) 0).length = 20 := by simp; omega
      have hcell := inc_cell ho hz hlt
      have hst := inc_step ho hz hlt 11
      rw [ovr_set hlt] at hst
      refine go_Hm5 (k := ?_)
      rw [add0] at hcell ⊢
      refine OW_store1 one_u8 rfl (bv 11) _ rfl rfl hcell (ho.frozenAt k) ?_
      refine go_Hm5 (k := ?_)
      refine ⟨⟨k + 1, by omega, rfl, rfl, hst.1, below_only hx hst.2 hg1 hx.size⟩, ?_⟩
      show 20 - ((k : Int) + 1).toNat < 20 - (k : Int).toNat
      omega
    · have hge : k = 20 := by simp at h; omega
      subst hge
      refine go_Hm5 (k := ?_)
      exact ⟨rfl, rfl, own_rd ho, hx⟩
  rintro e' w2 ⟨q1, hbk, hx2⟩
  rw [upd_self q1]
  refine go_Hm5 (k := ?_)
  refine OW_lit (hiT.map bv) und_bytes info_u8 (by kernel_rfl) rfl (bv_one _) (by decide) ?_
  intro w3 g3 hb3 hg3 hx3
  refine go_Hm5 (k := ?_)
  refine OW_convB und_bytes und_u8 rfl hb3 ?_
  intro w4 hr4 hgr4
  have hx24 : Ext w2 w4 := below_only hx3 hgr4 (by omega) hx3.size
  have hx04 := hx2.trans' hx24
  refine go_Hm5 (k := ?_)
  refine OW_callV Try.func18 (by kernel_rfl) rfl (hA w4 (some ⟨g1, 0, none⟩) (some ⟨g3, 0, none⟩) (hbk.ext hx24) (bs_conv hr4)) rfl ?_
  intro w5 hx5
  have hx05 := hx04.trans' hx5
  refine go_Hm5 (k := ?_)
  refine OW_lit (key1.map bv) und_bytes info_u8 (by kernel_rfl) rfl (bv_one _) (by decide) ?_
  intro w6 g6 hb6 hg6 hx6
  refine go_Hm5 (k := ?_)
  refine OW_convB und_bytes und_u8 rfl hb6 ?_
  intro w7 hr7 hgr7
  have hx57 : Ext w5 w7 := below_only hx6 hgr7 (by omega) hx6.size
  have hx07 := hx05.trans' hx57
  refine go_Hm5 (k := ?_)
  refine OW_lit (whatB.map bv) und_bytes info_u8 (by kernel_rfl) rfl (bv_one _) (by decide) ?_
  intro w8 g8 hb8 hg8 hx8
  refine go_Hm5 (k := ?_)
  refine OW_convB und_bytes und_u8 rfl hb8 ?_
  intro w9 hr9 hgr9
  have hx79 : Ext w7 w9 := below_only hx8 hgr9 (by omega) hx8.size
  have hx09 := hx07.trans' hx79
  refine go_Hm5 (k := ?_)
  refine OW_callV Try.func18 (by kernel_rfl) rfl (hB w9 (some ⟨g6, 0, none⟩) (some ⟨g8, 0, none⟩) ((bs_conv hr7).ext hx79) (bs_conv hr9)) rfl ?_
  intro w10 hx10
  have hx010 := hx09.trans' hx10
  refine go_Hm5 (k := ?_)
  refine OW_allocA s_agg_Tag ?_
  intro w11 g11 hb11 hg11 hl11 hx11
  refine go_Hm5 (k := ?_)
  refine OW_allocA s_agg_Tag ?_
  intro w12 g12 hb12 hg12 hl12 hx12
  have hx012 := (hx010.trans' hx11).trans' hx12
  have n1 : (la.map bv).length = 32 := by rw [List.length_map, hll]
  have n2 : (lb.map bv).length = 32 := by rw [List.length_map, hlb2]
  have s11 := hx11.size
  have s12 := hx12.size
  have s010 := hx010.size
  refine go_Hm5 (k := ?_)
  refine OW_storeA s_agg_Tag rfl (la.map bv) rfl n1 (hb11.ext hx12) rfl (bv_one _) ?_
  intro w13 hb13 hgr13
  have hk13 : Keeps w12 w13 (· = g11) := Keeps.of_only hgr13 rfl
  refine go_Hm5 (k := ?_)
  refine OW_storeA s_agg_Tag rfl (lb.map bv) rfl n2 (hb12.keeps hk13 (by omega)) rfl (bv_one _) ?_
  intro w14 hb14 hgr14
  have hk14 : Keeps w13 w14 (· = g12) := Keeps.of_only hgr14 rfl
  replace hb13 := hb13.keeps hk14 (by omega)
  have hx014 : Ext w w14 := hk14.ext (hk13.ext hx012 (fun k hk => by omega)) (fun k hk => by omega)
  clear hb11 hb12
  refine go_Hm5 (k := ?_)
  refine OW_callV Try.func60 (by kernel_rfl) rfl (hsame_any w14 la la hll hll) rfl ?_
  intro w15 hx15
  rw [show (la == la) = true from beq_self_eq_true la]
  replace hb13 := hb13.ext hx15
  replace hb14 := hb14.ext hx15
  refine go_Hm5 (k := ?_)
  refine OW_callV Try.func60 (by kernel_rfl) rfl (hsame_any w15 la lb hll hlb2) rfl ?_
  intro w16 hx16
  rw [hab]
  refine go_Hm5 (k := ?_)
  exact bodyE_ret1 rfl (.bool true) rfl ⟨rfl, (hx014.trans' hx15).trans' hx16⟩
end Go.Proofs.Ytdpcahfgdpikfaa
