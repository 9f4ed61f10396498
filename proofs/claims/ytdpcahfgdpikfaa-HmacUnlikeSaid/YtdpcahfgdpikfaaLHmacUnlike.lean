/- HmacUnlike: unlike bytes, keys, numbers have unlike tags, here of one byte each. No condition. -/
import Derived.Test.YtdpcahfgdpikfaaHm5
import Derived.Test.YtdpcahfgdpikfaaHmV1
import Derived.Test.YtdpcahfgdpikfaaHmV2
namespace Go.Proofs.Ytdpcahfgdpikfaa.lawHmacUnlike
open Go.ChangeShapes Go.WideShapes Go.ChangeAt Go.RowKit
set_option linter.unusedVariables false
set_option maxRecDepth 4000
theorem go_LHmacUnlike {A B : Prop} (h : Held B → A := by
  intro hEnd
  repeat (first | refine OW_moveV (.int _ _) rfl ?_ | refine OW_moveV (.slice _ _ _) rfl ?_ | refine OW_moveV (.bool _) rfl ?_ | refine OW_moveV (.pointer _) rfl ?_ | refine OW_moveV (.string _) rfl ?_ | refine OW_moveV (.agg _) rfl ?_ | refine OW_moveV (.tuple _) rfl ?_ | refine OW_nil ?_ | refine thenE_normal ?_ | refine CW_seq ?_ | refine CW_region (by kernel_rfl) ?_ | refine OW_assignV (.int _ _) rfl ?_ | refine OW_assignV (.slice _ _ _) rfl ?_ | refine OW_assignV (.bool _) rfl ?_ | refine OW_assignV (.pointer _) rfl ?_ | refine OW_assignV (.string _) rfl ?_ | refine OW_assignV (.agg _) rfl ?_ | refine OW_assignV (.tuple _) rfl ?_ | refine OW_addI rfl rfl (by omega) ?_ | refine OW_subI rfl rfl (by omega) ?_ | refine OW_mulI rfl rfl (by omega) ?_ | refine OW_lss rfl rfl ?_ | refine OW_extract rfl rfl ?_ | refine OW_gtr rfl rfl ?_ | refine OW_leq rfl rfl ?_ | refine OW_geq rfl rfl ?_ | refine OW_eql rfl rfl ?_ | refine OW_neq rfl rfl ?_ | refine OW_not rfl ?_ | refine OW_pickT rfl _ rfl ?_ | refine OW_pickF rfl (.bool _) rfl ?_ | refine OW_pickB rfl rfl rfl ?_ | refine OW_move ?_ | refine OW_assign ?_ | refine OW_pass rfl ?_ | refine OW_take rfl ?_ | refine OW_lenS (by first | with_reducible exact und_bytes | with_reducible exact und_bytess) rfl ?_ | refine OW_convInt (by first | with_reducible exact und_u8 | with_reducible exact und_u64 | with_reducible exact und_int | with_reducible exact und_u32) (by first | with_reducible exact und_u8 | with_reducible exact und_u64 | with_reducible exact und_int | with_reducible exact und_u32) rfl ?_ | refine OW_add rfl rfl ?_ | refine OW_sub rfl rfl ?_ | refine OW_mul rfl rfl ?_ | refine OW_min2 rfl rfl ?_ | refine OW_max2 rfl rfl ?_ | refine OW_neg rfl ?_ | refine CW_block ?_ | refine CW_condT rfl ?_ | refine CW_condF rfl ?_ | refine CW_exit ?_ | refine CW_ret ?_ | refine CW_skip ?_ | refine LW_seq ?_ | refine LW_regC ?_ | refine LW_condC ?_ | refine LW_regF ?_ | refine LW_condF ?_ | refine FW_seq ?_ | refine FW_region (by kernel_rfl) ?_ | refine FW_block ?_ | refine FW_condT rfl ?_ | refine FW_condF rfl ?_ | refine FW_exit ?_ | refine FW_ret ?_ | refine FW_skip ?_ | refine LW_ret ?_ | refine LW_skip ?_ | refine thenE_exit ?_ | refine thenE_ret ?_ | refine inBlockE_normal ?_ | refine inBlockE_same ?_ | refine inBlockE_ret ?_ | refine inBlockE_ne (by rfl) ?_ | refine OW_eqlB (by with_reducible exact und_bool) rfl rfl ?_ | refine OW_neqB (by with_reducible exact und_bool) rfl rfl ?_ | refine OW_idxS (by with_reducible exact und_bytes) one_u8 rfl rfl _ rfl (by omega) ?_ | refine OW_idxS (by with_reducible exact und_bytess) one_bytes rfl rfl _ rfl (by omega) ?_ | refine OW_load1 (by first | with_reducible exact one_u8 | with_reducible exact one_bytes) rfl _ (by assumption) ?_)
  exact hEnd.out) (k : B) : A := h ⟨k⟩
theorem info_int : (Try.prog.info? 3).map (fun i => (i.zero, i.size, i.bytes)) = some (some (.int .i64 0), 1, 8) := by kernel_rfl
theorem is_lit {w : World} {g : Nat} {T : TypeId} (l : List Int) (hb : Blk w g T (l.map iv).toArray) : Is w (some ⟨g, 0, none⟩) l := by
  unfold Is
  simpa using hb.rd
theorem un1 (a b : UInt8) : decide (hmacL [107] [a] = hmacL [107] [b]) = decide (a = b) := by
  rw [decide_eq_decide]
  refine ⟨fun h => ?_, fun h => by rw [h]⟩
  have h1 := hmW_inj h
  have h2 : uF1 a.toNat = uF1 b.toNat := by unfold uF1; rw [UInt8.ofNat_toNat, UInt8.ofNat_toNat]; exact h1
  exact UInt8.toNat_inj.1 (uF1_inj a.toNat_lt b.toNat_lt h2)
theorem un2 (a b : UInt8) : decide (hmacL [a] [107] = hmacL [b] [107]) = decide (a = b) := by
  rw [decide_eq_decide]
  refine ⟨fun h => ?_, fun h => by rw [h]⟩
  have h1 := hmW_inj h
  have h2 : uF2 a.toNat = uF2 b.toNat := by unfold uF2; rw [UInt8.ofNat_toNat, UInt8.ofNat_toNat]; exact h1
  exact UInt8.toNat_inj.1 (uF2_inj a.toNat_lt b.toNat_lt h2)
theorem un3 (n m : Nat) (hn : n < 256) (hm : m < 256) : (hmacL [107] (formB ⟨#[120]⟩ [(n : Int)]) == hmacL [107] (formB ⟨#[120]⟩ [(m : Int)])) = decide (n = m) := by
  rw [Bool.eq_iff_iff, beq_iff_eq, decide_eq_true_iff]
  refine ⟨fun h => ?_, fun h => by rw [h]⟩
  have h1 := hmW_inj h
  have h2 : uF3 n = uF3 m := by unfold uF3; exact h1
  exact uF3_inj hn hm h2
theorem u8eq (a b : UInt8) : ((a.toNat : Int) == (b.toNat : Int)) = decide (a = b) := by
  rw [Bool.eq_iff_iff, beq_iff_eq, decide_eq_true_iff]
  exact ⟨fun h => UInt8.toNat_inj.1 (by omega), fun h => by rw [h]⟩
set_option maxHeartbeats 8000000 in
theorem walk (w : World) (v0 : Value) (a : UInt8) (h0 : kB8.R w [v0] a) (v1 : Value) (b : UInt8) (h1 : kB8.R w [v1] b) (v2 : Value) (n : Int) (h2 : kI.R w [v2] n) (v3 : Value) (m : Int) (h3 : kI.R w [v3] m) :
    Calls Try.prog 4 #[v0, v1, v2, v3] w (RetV w (.bool true)) := by
  have hv0 : [v0] = [bv a] := h0
  have hv1 : [v1] = [bv b] := h1
  obtain ⟨hv2, hn⟩ := h2
  obtain ⟨hv3, hm⟩ := h3
  injection hv0 with hv0
  injection hv1 with hv1
  injection hv2 with hv2
  injection hv3 with hv3
  subst hv0; subst hv1; subst hv2; subst hv3
  unfold bv
  refine calls_of_CW Try.func4 rfl (by simp [Try.ntmps4]) ?_
  rw [Try.ntmps4]
  refine go_LHmacUnlike (k := ?_)
  refine OW_callV Try.func14 (by kernel_rfl) rfl (awake3_any w) rfl ?_
  intro w1 hx1
  refine go_LHmacUnlike (k := ?_)
  refine OW_split 14 _ rfl (fun h => ?_) (fun h => ?_)
  · refine go_LHmacUnlike (k := ?_)
    exact bodyE_ret1 rfl (.bool true) rfl ⟨rfl, hx1⟩
  have hn0 : 0 ≤ n := by simp at h; omega
  clear h
  refine go_LHmacUnlike (k := ?_)
  refine OW_split 18 _ rfl (fun h => ?_) (fun h => ?_)
  · refine go_LHmacUnlike (k := ?_)
    exact bodyE_ret1 rfl (.bool true) rfl ⟨rfl, hx1⟩
  have hn1 : n ≤ 255 := by simp at h; omega
  clear h
  refine go_LHmacUnlike (k := ?_)
  refine OW_split 22 _ rfl (fun h => ?_) (fun h => ?_)
  · refine go_LHmacUnlike (k := ?_)
    exact bodyE_ret1 rfl (.bool true) rfl ⟨rfl, hx1⟩
  have hm0 : 0 ≤ m := by simp at h; omega
  clear h
  refine go_LHmacUnlike (k := ?_)
  refine OW_split 26 _ rfl (fun h => ?_) (fun h => ?_)
  · refine go_LHmacUnlike (k := ?_)
    exact bodyE_ret1 rfl (.bool true) rfl ⟨rfl, hx1⟩
  have hm1 : m ≤ 255 := by simp at h; omega
  clear h
  refine go_LHmacUnlike (k := ?_)
  refine OW_split 30 _ rfl (fun h => ?_) (fun h => ?_)
  · refine go_LHmacUnlike (k := ?_)
    exact bodyE_ret1 rfl (.bool true) rfl ⟨rfl, hx1⟩
  clear h
  refine go_LHmacUnlike (k := ?_)
  refine CW_cond _ rfl (fun h => ?_) (fun h => ?_)
  · refine go_LHmacUnlike (k := ?_)
    exact bodyE_ret1 rfl (.bool true) rfl ⟨rfl, hx1⟩
  clear h hn hm
  obtain ⟨n, rfl⟩ : ∃ k : Nat, n = k := ⟨n.toNat, by omega⟩
  obtain ⟨m, rfl⟩ : ∃ k : Nat, m = k := ⟨m.toNat, by omega⟩
  have e1 := un1 a b
  have e2 := un2 a b
  have e3 := un3 n m (by omega) (by omega)
  have e4 : (((n : Nat) : Int) == ((m : Nat) : Int)) = decide (n = m) := by rw [Bool.eq_iff_iff, beq_iff_eq, decide_eq_true_iff]; omega
  have hS1 := fun (w : World) A B => hmacSum_any w A B 1 1 [107] [a]
  have hS2 := fun (w : World) A B => hmacSum_any w A B 1 1 [107] [b]
  have hS3 := fun (w : World) A B => hmacSum_any w A B 1 1 [a] [107]
  have hS4 := fun (w : World) A B => hmacSum_any w A B 1 1 [b] [107]
  have hD1 := fun (w : World) A L => hderive_any w A 1 [107] (s := ⟨#[120]⟩) (L := L) (cL := 1) (l := [((n : Nat) : Int)])
  have hD2 := fun (w : World) A L => hderive_any w A 1 [107] (s := ⟨#[120]⟩) (L := L) (cL := 1) (l := [((m : Nat) : Int)])
  have l1 := hmacL_length [107] [a]
  have l2 := hmacL_length [107] [b]
  have l3 := hmacL_length [a] [107]
  have l4 := hmacL_length [b] [107]
  have l5 := hmacL_length [107] (formB ⟨#[120]⟩ [((n : Nat) : Int)])
  have l6 := hmacL_length [107] (formB ⟨#[120]⟩ [((m : Nat) : Int)])
  generalize hmacL [107] [a] = X1 at *
  generalize hmacL [107] [b] = X2 at *
  generalize hmacL [a] [107] = X3 at *
  generalize hmacL [b] [107] = X4 at *
  generalize hmacL [107] (formB ⟨#[120]⟩ [((n : Nat) : Int)]) = X5 at *
  generalize hmacL [107] (formB ⟨#[120]⟩ [((m : Nat) : Int)]) = X6 at *
  refine go_LHmacUnlike (k := ?_)
  refine OW_lit [bv 107] und_bytes info_u8 rfl rfl (by simp [bv, Value.oneCell']) (by decide) ?_
  intro w2 g2 hb2 hg2 hx2
  refine go_LHmacUnlike (k := ?_)
  refine OW_convB und_bytes und_u8 rfl hb2 ?_
  intro w3 hr3 hgr3
  have hbk : Bs w3 (some ⟨g2, 0, none⟩) [107] := hr3
  have hx3 : Ext w w3 := below_only (hx1.trans' hx2) hgr3 (by have := hx1.size; omega) (hx1.trans' hx2).size
  refine go_LHmacUnlike (k := ?_)
  refine OW_lit [bv a] und_bytes info_u8 rfl rfl (by simp [bv, Value.oneCell']) (by decide) ?_
  intro w4 g4 hb4 hg4 hx4
  refine go_LHmacUnlike (k := ?_)
  refine OW_callV Try.func18 (by kernel_rfl) rfl (hS1 w4 (some ⟨g2, 0, none⟩) (some ⟨g4, 0, none⟩) (hbk.ext hx4) (by decide) (by decide) (bs_lit [a] _ hb4 rfl) (by simp)) rfl ?_
  intro w5 hx5
  have hx35 := hx4.trans' hx5
  refine go_LHmacUnlike (k := ?_)
  refine OW_lit [bv b] und_bytes info_u8 rfl rfl (by simp [bv, Value.oneCell']) (by decide) ?_
  intro w6 g6 hb6 hg6 hx6
  have hx36 := hx35.trans' hx6
  refine go_LHmacUnlike (k := ?_)
  refine OW_callV Try.func18 (by kernel_rfl) rfl (hS2 w6 (some ⟨g2, 0, none⟩) (some ⟨g6, 0, none⟩) (hbk.ext hx36) (by decide) (by decide) (bs_lit [b] _ hb6 rfl) (by simp)) rfl ?_
  intro w7 hx7
  have hx37 := hx36.trans' hx7
  refine go_LHmacUnlike (k := ?_)
  refine OW_eqlR s_eqr_Tag rfl rfl l1 l2 ?_
  rw [e1]
  refine go_LHmacUnlike (k := ?_)
  rw [u8eq, show (!(decide (a = b) == decide (a = b))) = false by simp]
  refine go_LHmacUnlike (k := ?_)
  refine OW_lit [bv a] und_bytes info_u8 rfl rfl (by simp [bv, Value.oneCell']) (by decide) ?_
  intro w8 g8 hb8 hg8 hx8
  have hx38 := hx37.trans' hx8
  refine go_LHmacUnlike (k := ?_)
  refine OW_callV Try.func18 (by kernel_rfl) rfl (hS3 w8 (some ⟨g8, 0, none⟩) (some ⟨g2, 0, none⟩) (bs_lit [a] _ hb8 rfl) (by simp) (by simp) (hbk.ext hx38) (by decide)) rfl ?_
  intro w9 hx9
  have hx39 := hx38.trans' hx9
  refine go_LHmacUnlike (k := ?_)
  refine OW_lit [bv b] und_bytes info_u8 rfl rfl (by simp [bv, Value.oneCell']) (by decide) ?_
  intro w10 g10 hb10 hg10 hx10
  have hx310 := hx39.trans' hx10
  refine go_LHmacUnlike (k := ?_)
  refine OW_callV Try.func18 (by kernel_rfl) rfl (hS4 w10 (some ⟨g10, 0, none⟩) (some ⟨g2, 0, none⟩) (bs_lit [b] _ hb10 rfl) (by simp) (by simp) (hbk.ext hx310) (by decide)) rfl ?_
  intro w11 hx11
  have hx311 := hx310.trans' hx11
  refine go_LHmacUnlike (k := ?_)
  refine OW_eqlR s_eqr_Tag rfl rfl l3 l4 ?_
  rw [e2]
  refine go_LHmacUnlike (k := ?_)
  rw [u8eq, show (!(decide (a = b) == decide (a = b))) = false by simp]
  refine go_LHmacUnlike (k := ?_)
  refine OW_lit [iv ((n : Nat) : Int)] und_ints info_int rfl rfl (by simp [iv, Value.oneCell']) (by decide) ?_
  intro w12 g12 hb12 hg12 hx12
  have hx312 := hx311.trans' hx12
  refine go_LHmacUnlike (k := ?_)
  refine OW_callBs Try.func22 (by kernel_rfl) rfl (hD1 w12 (some ⟨g2, 0, none⟩) (some ⟨g12, 0, none⟩) (hbk.ext hx312) (by decide) (by decide) (by decide) (is_lit [((n : Nat) : Int)] hb12) (by simp)) rfl ?_
  intro w13 A13 c13 hf13
  have hx313 := hx312.trans' hf13.ext
  refine go_LHmacUnlike (k := ?_)
  refine OW_lit [iv ((m : Nat) : Int)] und_ints info_int rfl rfl (by simp [iv, Value.oneCell']) (by decide) ?_
  intro w14 g14 hb14 hg14 hx14
  have hx314 := hx313.trans' hx14
  refine go_LHmacUnlike (k := ?_)
  refine OW_callBs Try.func22 (by kernel_rfl) rfl (hD2 w14 (some ⟨g2, 0, none⟩) (some ⟨g14, 0, none⟩) (hbk.ext hx314) (by decide) (by decide) (by decide) (is_lit [((m : Nat) : Int)] hb14) (by simp)) rfl ?_
  intro w15 A15 c15 hf15
  have hx315 := hx314.trans' hf15.ext
  refine go_LHmacUnlike (k := ?_)
  refine OW_callV Try.func21 (by kernel_rfl) rfl (same_any w15 A13 A15 X5 X6 c13 c15 (hf13.bs.ext (hx14.trans' hf15.ext)) hf15.bs hf13.cap (by omega)) rfl ?_
  intro w16 hx16
  rw [e3]
  refine go_LHmacUnlike (k := ?_)
  rw [e4, show (decide (n = m) == decide (n = m)) = true by simp]
  refine go_LHmacUnlike (k := ?_)
  exact bodyE_ret1 rfl (.bool true) rfl ⟨rfl, (hx3.trans' hx315).trans' hx16⟩
set_option maxRecDepth 100000 in
theorem lifted (os : Os) (started : os.Started) (H : Type) (enc : TypeId × Value → H) :
    ReturnsInHanded {} Try.checked os 4 .any (Rows.hmacUnlikeSpec.pre6 enc Try.prog Try.f4 Rows.hmacUnlikeRow.domain false) (Rows.hmacUnlikeSpec.post enc Try.prog Try.f4 false true false false) := by
  refine returnsInHanded_of_change_sized (C := Try.checked) ownP started (by kernel_rfl) Try.func4
    (ChangeSpec.witness6 (enc := enc) (C := Try.checked) false ⟨#[], #[.int .u8 0, .int .u8 0, .int .i64 0, .int .i64 0], []⟩ 8 (by kernel_rfl) (by kernel_rfl) (by kernel_rfl) (by kernel_rfl)) ?_
  intro W base args ds gs before hval0 hW hcnd hwt0 _
  have hval : ∀ (j : Nat) t v, Try.f4.params[j]? = some t → args[j]? = some v → Value.okWide Try.prog W .any base t v := hval0
  have hW' := hW
  obtain ⟨p, q, hA0, hV, rfl, hfz, hnd⟩ := hW
  have hA : DataW.TrodAll enc Try.prog W 0 (fun _ => true) true Try.f4.params.toList args.toList ds p := hA0
  have hwt : (DataW.weightsEach Try.prog (Try.f4.params.toList ++ []) (ds ++ gs)).all (· ≤ reachBytes) = true := hwt0
  rw [Try.params4] at hA hval hwt
  obtain ⟨v0, vs0, d0, ds0, p0, q0, hargs, rfl, rfl, h0, r0⟩ := trodAll_cons hA
  obtain ⟨v1, vs1, d1, ds1, p1, q1, rfl, rfl, rfl, h1, r1⟩ := trodAll_cons r0
  obtain ⟨v2, vs2, d2, ds2, p2, q2, rfl, rfl, rfl, h2, r2⟩ := trodAll_cons r1
  obtain ⟨v3, vs3, d3, ds3, p3, q3, rfl, rfl, rfl, h3, r3⟩ := trodAll_cons r2
  obtain ⟨rfl, rfl, rfl⟩ := trodAll_nil r3
  obtain rfl : args = #[v0, v1, v2, v3] := by cases args; simp_all
  obtain ⟨rfl, rfl⟩ := trodVars_none hV
  have k0 := h0
  have lt0 : ∀ x ∈ p0, x.block < W.heap.size := by obtain ⟨m, hm⟩ := k0; exact DataW.trod_lt m _ _ _ hm
  have wk0 : WOk Try.prog 5 d0 := wok_each hwt 0 rfl rfl
  obtain ⟨a0, b0⟩ := kd_int kB8 und_u8 (hval 0 5 v0 rfl rfl) h0 wk0
  have k1 := h1
  have lt1 : ∀ x ∈ p1, x.block < W.heap.size := by obtain ⟨m, hm⟩ := k1; exact DataW.trod_lt m _ _ _ hm
  have wk1 : WOk Try.prog 5 d1 := wok_each hwt 1 rfl rfl
  obtain ⟨a1, b1⟩ := kd_int kB8 und_u8 (hval 1 5 v1 rfl rfl) h1 wk1
  have k2 := h2
  have lt2 : ∀ x ∈ p2, x.block < W.heap.size := by obtain ⟨m, hm⟩ := k2; exact DataW.trod_lt m _ _ _ hm
  have wk2 : WOk Try.prog 3 d2 := wok_each hwt 2 rfl rfl
  obtain ⟨a2, b2⟩ := kd_int kI und_int (hval 2 3 v2 rfl rfl) h2 wk2
  have k3 := h3
  have lt3 : ∀ x ∈ p3, x.block < W.heap.size := by obtain ⟨m, hm⟩ := k3; exact DataW.trod_lt m _ _ _ hm
  have wk3 : WOk Try.prog 3 d3 := wok_each hwt 3 rfl rfl
  obtain ⟨a3, b3⟩ := kd_int kI und_int (hval 3 3 v3 rfl rfl) h3 wk3
  clear hA0 hval0 hwt0
  refine (walk W v0 a0 b0 v1 a1 b1 v2 a2 b2 v3 a3 b3).mono fun e W' ⟨he, bel⟩ => ?_
  subst he
  exact ⟨_, rfl, _, _, _, [], _, [], hW', trodAll_mk1 (shut_bool Try.underlying4 _), (trodAll_cons_mk (Below.trod laidP (by kernel_rfl) (of_decide_eq_true (by kernel_rfl)) k0 bel lt0) (trodAll_cons_mk (Below.trod laidP (by kernel_rfl) (of_decide_eq_true (by kernel_rfl)) k1 bel lt1) (trodAll_cons_mk (Below.trod laidP (by kernel_rfl) (of_decide_eq_true (by kernel_rfl)) k2 bel lt2) (trodAll_cons_mk (Below.trod laidP (by kernel_rfl) (of_decide_eq_true (by kernel_rfl)) k3 bel lt3) trodAll_mk0)))), rfl, bel.frame _, fun h => by cases h⟩
theorem over : Rows.hmacUnlikeRow.holds Try.pinned (OpenSpec.ofChange Rows.hmacUnlikeSpec) :=
  OpenClaim.holds_of_wide 4 Try.f4 rfl rfl rfl rfl rfl rfl rfl ⟨rfl, rfl, rfl, rfl, rfl⟩ rfl rfl rfl rfl rfl (by kernel_rfl) Try.func4 (by kernel_rfl)
    (of_decide_eq_true (by kernel_rfl)) (by unfold Func.isWrapper; first | (rw [if_pos (by decide +kernel)]; kernel_rfl) | (rw [if_neg (by decide +kernel)]; exact ⟨rfl, rfl⟩))
    (fun os started H enc _ => lifted os started H enc)
theorem proved : Rows.HmacUnlikeSaid := over
#print axioms proved
end Go.Proofs.Ytdpcahfgdpikfaa.lawHmacUnlike
