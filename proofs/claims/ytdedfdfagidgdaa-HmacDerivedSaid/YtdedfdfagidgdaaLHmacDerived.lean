/- HmacDerived: a derived key is the HMAC of its label and its numbers, 32 bytes; the same again. No condition. -/
import Derived.Test.YtdedfdfagidgdaaHm5
namespace Go.Proofs.Ytdedfdfagidgdaa.lawHmacDerived
open Go.ChangeShapes Go.WideShapes Go.ChangeAt Go.RowKit
set_option linter.unusedVariables false
set_option maxRecDepth 4000
theorem go_LHmacDerived {A B : Prop} (h : Held B → A := by
  intro hEnd
  repeat (first | refine OW_sliceP h_slp_Tag rfl ?_ | refine OW_moveV (.int _ _) rfl ?_ | refine OW_moveV (.slice _ _ _) rfl ?_ | refine OW_moveV (.bool _) rfl ?_ | refine OW_moveV (.pointer _) rfl ?_ | refine OW_moveV (.string _) rfl ?_ | refine OW_moveV (.agg _) rfl ?_ | refine OW_moveV (.tuple _) rfl ?_ | refine OW_nil ?_ | refine thenE_normal ?_ | refine CW_seq ?_ | refine CW_region (by kernel_rfl) ?_ | refine OW_assignV (.int _ _) rfl ?_ | refine OW_assignV (.slice _ _ _) rfl ?_ | refine OW_assignV (.bool _) rfl ?_ | refine OW_assignV (.pointer _) rfl ?_ | refine OW_assignV (.string _) rfl ?_ | refine OW_assignV (.agg _) rfl ?_ | refine OW_assignV (.tuple _) rfl ?_ | refine OW_addI rfl rfl (by omega) ?_ | refine OW_subI rfl rfl (by omega) ?_ | refine OW_mulI rfl rfl (by omega) ?_ | refine OW_lss rfl rfl ?_ | refine OW_extract rfl rfl ?_ | refine OW_gtr rfl rfl ?_ | refine OW_leq rfl rfl ?_ | refine OW_geq rfl rfl ?_ | refine OW_eql rfl rfl ?_ | refine OW_neq rfl rfl ?_ | refine OW_not rfl ?_ | refine OW_pickT rfl _ rfl ?_ | refine OW_pickF rfl (.bool _) rfl ?_ | refine OW_pickB rfl rfl rfl ?_ | refine OW_move ?_ | refine OW_assign ?_ | refine OW_pass rfl ?_ | refine OW_take rfl ?_ | refine OW_lenS (by first | with_reducible exact und_bytes | with_reducible exact und_bytess) rfl ?_ | refine OW_convInt (by first | with_reducible exact und_u8 | with_reducible exact und_u64 | with_reducible exact und_int | with_reducible exact und_u32) (by first | with_reducible exact und_u8 | with_reducible exact und_u64 | with_reducible exact und_int | with_reducible exact und_u32) rfl ?_ | refine OW_add rfl rfl ?_ | refine OW_sub rfl rfl ?_ | refine OW_mul rfl rfl ?_ | refine OW_min2 rfl rfl ?_ | refine OW_max2 rfl rfl ?_ | refine OW_neg rfl ?_ | refine CW_block ?_ | refine CW_condT rfl ?_ | refine CW_condF rfl ?_ | refine CW_exit ?_ | refine CW_ret ?_ | refine CW_skip ?_ | refine LW_seq ?_ | refine LW_regC ?_ | refine LW_condC ?_ | refine LW_regF ?_ | refine LW_condF ?_ | refine FW_seq ?_ | refine FW_region (by kernel_rfl) ?_ | refine FW_block ?_ | refine FW_condT rfl ?_ | refine FW_condF rfl ?_ | refine FW_exit ?_ | refine FW_ret ?_ | refine FW_skip ?_ | refine LW_ret ?_ | refine LW_skip ?_ | refine thenE_exit ?_ | refine thenE_ret ?_ | refine inBlockE_normal ?_ | refine inBlockE_same ?_ | refine inBlockE_ret ?_ | refine inBlockE_ne (by rfl) ?_ | refine OW_eqlB (by with_reducible exact und_bool) rfl rfl ?_ | refine OW_neqB (by with_reducible exact und_bool) rfl rfl ?_ | refine OW_idxS (by with_reducible exact und_bytes) one_u8 rfl rfl _ rfl (by omega) ?_ | refine OW_idxS (by with_reducible exact und_bytess) one_bytes rfl rfl _ rfl (by omega) ?_ | refine OW_load1 (by first | with_reducible exact one_u8 | with_reducible exact one_bytes) rfl _ (by assumption) ?_ | refine OW_lenS und_ints rfl ?_ | refine OW_lenT Try.underlying9 rfl ?_)
  exact hEnd.out) (k : B) : A := h ⟨k⟩
theorem info_int : (Try.prog.info? 3).map (fun i => (i.zero, i.size, i.bytes)) = some (some (.int .i64 0), 1, 8) := by kernel_rfl
theorem is_lit {w : World} {g : Nat} {T : TypeId} (l : List Int) (hb : Blk w g T (l.map iv).toArray) : Is w (some ⟨g, 0, none⟩) l := by
  unfold Is
  simpa using hb.rd
set_option maxHeartbeats 8000000 in
theorem walk (w : World) (v0 : Value) (key : List UInt8) (h0 : kBs.R w [v0] key) (v1 : Value) (s : ByteArray) (h1 : kSt.R w [v1] s) (v2 : Value) (s2 : ByteArray) (h2 : kSt.R w [v2] s2) (v3 : Value) (n : Int) (h3 : kI.R w [v3] n) (v4 : Value) (m : Int) (h4 : kI.R w [v4] m) :
    Calls Try.prog 8 #[v0, v1, v2, v3, v4] w (RetV w (.bool true)) := by
  obtain ⟨A, cA, hv0, ⟨hca, hca2⟩, ha⟩ := h0
  obtain ⟨hv1, hls⟩ := h1
  obtain ⟨hv2, hls2⟩ := h2
  obtain ⟨hv3, hn⟩ := h3
  obtain ⟨hv4, hm⟩ := h4
  injection hv0 with hv0
  injection hv1 with hv1
  injection hv2 with hv2
  injection hv3 with hv3
  injection hv4 with hv4
  subst hv0; subst hv1; subst hv2; subst hv3; subst hv4
  have hss : s.size = s.data.toList.length := by rw [Array.length_toList]; rfl
  have hss2 : s2.size = s2.data.toList.length := by rw [Array.length_toList]; rfl
  refine calls_of_CW Try.func8 rfl (by simp [Try.ntmps8]) ?_
  rw [Try.ntmps8]
  refine go_LHmacDerived (k := ?_)
  refine OW_callV Try.func17 (by kernel_rfl) rfl (awake3_any w) rfl ?_
  intro w1 hx1
  refine go_LHmacDerived (k := ?_)
  refine OW_split 19 _ rfl (fun h => ?_) (fun h => ?_)
  · refine go_LHmacDerived (k := ?_)
    exact bodyE_ret1 rfl (.bool true) rfl ⟨rfl, hx1⟩
  have hla : key.length ≤ 200 := by simp at h; omega
  clear h
  refine go_LHmacDerived (k := ?_)
  refine OW_split 24 _ rfl (fun h => ?_) (fun h => ?_)
  · refine go_LHmacDerived (k := ?_)
    exact bodyE_ret1 rfl (.bool true) rfl ⟨rfl, hx1⟩
  have hs5 : s.data.toList.length ≤ 50 := by have := of_decide_eq_false h; omega
  clear h
  refine go_LHmacDerived (k := ?_)
  refine CW_cond _ rfl (fun h => ?_) (fun h => ?_)
  · refine go_LHmacDerived (k := ?_)
    exact bodyE_ret1 rfl (.bool true) rfl ⟨rfl, hx1⟩
  have hs6 : s2.data.toList.length ≤ 50 := by have := of_decide_eq_false h; omega
  clear h hca2 hls hls2
  have hD := fun (w5 : World) (hx : Ext w w5) (L : Option Addr) (hL : Is w5 L [n, m]) => hderive_any w5 A cA key (ha.ext hx) hca (by omega) s (by omega) L 2 [n, m] hL (by simp)
  have hD2 := fun (w5 : World) (hx : Ext w w5) (L : Option Addr) (hL : Is w5 L [m]) => hderive_any w5 A cA key (ha.ext hx) hca (by omega) s2 (by omega) L 1 [m] hL (by simp)
  have hol := hmacL_length key (formB s [n, m])
  have hol2 := hmacL_length key (formB s2 [m])
  have hF := formB_length s [n, m]
  rw [show ([n, m] : List Int).length = 2 from rfl] at hF
  have hS := fun (w5 : World) (hx : Ext w w5) (B : Option Addr) (cB : Nat) (hb : Bs w5 B (formB s [n, m])) => hmacSum_any w5 A B cA cB key (formB s [n, m]) (ha.ext hx) hca (by omega) hb (by omega)
  have hFe : s.data.toList ++ (([0] : List UInt8) ++ (putL (u64N n) 8 ++ putL (u64N m) 8)) = formB s [n, m] := by simp [formB, numsB]
  have hp1 := putL_length (u64N n) 8
  have hp2 := putL_length (u64N m) 8
  generalize formB s [n, m] = F at *
  generalize hmacL key F = out at *
  generalize hmacL key (formB s2 [m]) = out2 at *
  refine go_LHmacDerived (k := ?_)
  refine OW_lit ([n, m].map iv) und_ints info_int rfl rfl (by simp [iv, Value.oneCell']) (by decide) ?_
  intro w2 g2 hb2 hg2 hx2
  have hx02 := hx1.trans' hx2
  refine go_LHmacDerived (k := ?_)
  refine OW_callBs Try.func16 (by kernel_rfl) rfl (hD w2 hx02 (some ⟨g2, 0, none⟩) (is_lit _ hb2)) rfl ?_
  intro w3 X cX hX
  have hx03 := hx02.trans' hX.ext
  refine go_LHmacDerived (k := ?_)
  refine OW_lit ([m].map iv) und_ints info_int rfl rfl (by simp [iv, Value.oneCell']) (by decide) ?_
  intro w4 g4 hb4 hg4 hx4
  have hx04 := hx03.trans' hx4
  refine go_LHmacDerived (k := ?_)
  refine OW_callBs Try.func16 (by kernel_rfl) rfl (hD2 w4 hx04 (some ⟨g4, 0, none⟩) (is_lit _ hb4)) rfl ?_
  intro w5 X2 cX2 hX2
  have hx05 := hx04.trans' hX2.ext
  refine go_LHmacDerived (k := ?_)
  refine OW_lit ([n, m].map iv) und_ints info_int rfl rfl (by simp [iv, Value.oneCell']) (by decide) ?_
  intro w6 g6 hb6 hg6 hx6
  have hx06 := hx05.trans' hx6
  refine go_LHmacDerived (k := ?_)
  refine OW_callBs Try.func16 (by kernel_rfl) rfl (hD w6 hx06 (some ⟨g6, 0, none⟩) (is_lit _ hb6)) rfl ?_
  intro w7 Y cY hY
  have hx07 := hx06.trans' hY.ext
  have hX7 := hX.bs.ext ((hx4.trans' hX2.ext).trans' (hx6.trans' hY.ext))
  refine go_LHmacDerived (k := ?_)
  refine OW_bytesOf s Try.underlying9 und_bytes und_u8 rfl ?_
  intro w8 A8 c8 hb8 hA8 hx8
  refine go_LHmacDerived (k := ?_)
  refine OW_lit [bv 0] und_bytes info_u8 rfl rfl (by simp [bv, Value.oneCell']) (by decide) ?_
  intro w9 g9 hb9 hg9 hx9
  refine go_LHmacDerived (k := ?_)
  rw [wrap_u64I]
  refine OW_callBs Try.func23 (by kernel_rfl) rfl (put64_any w9 (u64N n) (u64N_lt _)) rfl ?_
  intro w10 A10 c10 hf10
  refine go_LHmacDerived (k := ?_)
  rw [wrap_u64I]
  refine OW_callBs Try.func23 (by kernel_rfl) rfl (put64_any w10 (u64N m) (u64N_lt _)) rfl ?_
  intro w11 A11 c11 hf11
  refine go_LHmacDerived (k := ?_)
  refine OW_lit [.slice A8 s.data.toList.length c8, .slice (some ⟨g9, 0, none⟩) 1 1, .slice A10 (putL (u64N n) 8).length c10, .slice A11 (putL (u64N m) 8).length c11] und_bytess info_bytes rfl rfl (by simp [Value.oneCell']) (by decide) ?_
  intro w12 g12 hb12 hg12 hx12
  have hx1012 := hf11.ext.trans' hx12
  have hx912 := hf10.ext.trans' hx1012
  have hcat := cat_lit4 (c := 4) hb12 (hb8.ext (hx9.trans' hx912)) rfl ((bs_lit [0] _ hb9 rfl).ext hx912) rfl (hf10.bs.ext hx1012) rfl (hf11.bs.ext hx12) rfl (show s.data.toList.length + (1 + ((putL (u64N n) 8).length + (putL (u64N m) 8).length)) ≤ 1000000 by omega)
  rw [hFe] at hcat
  refine go_LHmacDerived (k := ?_)
  refine OW_callBs Try.func19 (by kernel_rfl) rfl hcat rfl ?_
  intro w13 A13 c13 hf13
  have hx713 := ((hx8.trans' hx9).trans' hx912).trans' hf13.ext
  have hx013 := hx07.trans' hx713
  refine go_LHmacDerived (k := ?_)
  refine OW_callV Try.func12 (by kernel_rfl) rfl (hS w13 hx013 A13 c13 hf13.bs) rfl ?_
  intro w14 hx14
  refine go_LHmacDerived (k := ?_)
  refine OW_allocA s_agg_Tag ?_
  intro w15 g15 hb15 hg15 hl15 hx15
  have holen : (out.map bv).length = 32 := by rw [List.length_map, hol]
  refine go_LHmacDerived (k := ?_)
  refine OW_storeA s_agg_Tag rfl (out.map bv) rfl holen hb15 rfl (bv_one _) ?_
  intro w16 hb16 hgr16
  have hx1316 : Ext w13 w16 := below_only (hx14.trans' hx15) hgr16 (by have := hx14.size; omega) (hx14.trans' hx15).size
  have hx716 := hx713.trans' hx1316
  have hcX := hX.cap
  have hcY := hY.cap
  rw [hol] at hcX
  refine go_LHmacDerived (k := ?_)
  rw [show ((out.length : Int) == 32) = true by rw [hol]; rfl]
  refine go_LHmacDerived (k := ?_)
  refine OW_callV Try.func24 (by kernel_rfl) rfl (same_any w16 X Y out out cX cY (hX7.ext hx716) (hY.bs.ext hx716) (by omega) (by omega)) rfl ?_
  intro w17 hx17
  rw [show (out == out) = true from beq_self_eq_true out]
  refine go_LHmacDerived (k := ?_)
  refine OW_callV Try.func24 (by kernel_rfl) rfl (same_any w17 X (some ⟨g15, 0, none⟩) out out cX 32 (hX7.ext (hx716.trans' hx17)) ((bs_row hb16).ext hx17) (by omega) (by omega)) (by rw [hol]; rfl) ?_
  intro w18 hx18
  rw [show (out == out) = true from beq_self_eq_true out]
  refine go_LHmacDerived (k := ?_)
  exact bodyE_ret1 rfl (.bool true) rfl ⟨rfl, ((hx07.trans' hx716).trans' hx17).trans' hx18⟩
set_option maxRecDepth 100000 in
theorem lifted (os : Os) (started : os.Started) (H : Type) (enc : TypeId × Value → H) :
    ReturnsInHanded {} Try.checked os 8 .any (Rows.hmacDerivedSpec.pre6 enc Try.prog Try.f8 Rows.hmacDerivedRow.domain false) (Rows.hmacDerivedSpec.post enc Try.prog Try.f8 false true false false) := by
  refine returnsInHanded_of_change_sized (C := Try.checked) ownP started (by kernel_rfl) Try.func8
    (ChangeSpec.witness6 (enc := enc) (C := Try.checked) false ⟨#[], #[.slice none 0 0, .string ⟨#[]⟩, .string ⟨#[]⟩, .int .i64 0, .int .i64 0], []⟩ 8 (by kernel_rfl) (by kernel_rfl) (by kernel_rfl) (by kernel_rfl)) ?_
  intro W base args ds gs before hval0 hW hcnd hwt0 _
  have hval : ∀ (j : Nat) t v, Try.f8.params[j]? = some t → args[j]? = some v → Value.okWide Try.prog W .any base t v := hval0
  have hW' := hW
  obtain ⟨p, q, hA0, hV, rfl, hfz, hnd⟩ := hW
  have hA : DataW.TrodAll enc Try.prog W 0 (fun _ => true) true Try.f8.params.toList args.toList ds p := hA0
  have hwt : (DataW.weightsEach Try.prog (Try.f8.params.toList ++ []) (ds ++ gs)).all (· ≤ reachBytes) = true := hwt0
  rw [Try.params8] at hA hval hwt
  obtain ⟨v0, vs0, d0, ds0, p0, q0, hargs, rfl, rfl, h0, r0⟩ := trodAll_cons hA
  obtain ⟨v1, vs1, d1, ds1, p1, q1, rfl, rfl, rfl, h1, r1⟩ := trodAll_cons r0
  obtain ⟨v2, vs2, d2, ds2, p2, q2, rfl, rfl, rfl, h2, r2⟩ := trodAll_cons r1
  obtain ⟨v3, vs3, d3, ds3, p3, q3, rfl, rfl, rfl, h3, r3⟩ := trodAll_cons r2
  obtain ⟨v4, vs4, d4, ds4, p4, q4, rfl, rfl, rfl, h4, r4⟩ := trodAll_cons r3
  obtain ⟨rfl, rfl, rfl⟩ := trodAll_nil r4
  obtain rfl : args = #[v0, v1, v2, v3, v4] := by cases args; simp_all
  obtain ⟨rfl, rfl⟩ := trodVars_none hV
  have k0 := h0
  have lt0 : ∀ x ∈ p0, x.block < W.heap.size := by obtain ⟨m, hm⟩ := k0; exact DataW.trod_lt m _ _ _ hm
  have wk0 : WOk Try.prog 25 d0 := wok_each hwt 0 rfl rfl
  obtain ⟨a0, b0⟩ := kd_slice kBs und_bytes (hval 0 25 v0 rfl rfl) h0 wk0
  have k1 := h1
  have lt1 : ∀ x ∈ p1, x.block < W.heap.size := by obtain ⟨m, hm⟩ := k1; exact DataW.trod_lt m _ _ _ hm
  have wk1 : WOk Try.prog 9 d1 := wok_each hwt 1 rfl rfl
  obtain ⟨a1, b1⟩ := kd_str kSt Try.underlying9 (hval 1 9 v1 rfl rfl) h1 wk1
  have k2 := h2
  have lt2 : ∀ x ∈ p2, x.block < W.heap.size := by obtain ⟨m, hm⟩ := k2; exact DataW.trod_lt m _ _ _ hm
  have wk2 : WOk Try.prog 9 d2 := wok_each hwt 2 rfl rfl
  obtain ⟨a2, b2⟩ := kd_str kSt Try.underlying9 (hval 2 9 v2 rfl rfl) h2 wk2
  have k3 := h3
  have lt3 : ∀ x ∈ p3, x.block < W.heap.size := by obtain ⟨m, hm⟩ := k3; exact DataW.trod_lt m _ _ _ hm
  have wk3 : WOk Try.prog 3 d3 := wok_each hwt 3 rfl rfl
  obtain ⟨a3, b3⟩ := kd_int kI und_int (hval 3 3 v3 rfl rfl) h3 wk3
  have k4 := h4
  have lt4 : ∀ x ∈ p4, x.block < W.heap.size := by obtain ⟨m, hm⟩ := k4; exact DataW.trod_lt m _ _ _ hm
  have wk4 : WOk Try.prog 3 d4 := wok_each hwt 4 rfl rfl
  obtain ⟨a4, b4⟩ := kd_int kI und_int (hval 4 3 v4 rfl rfl) h4 wk4
  clear hA0 hval0 hwt0
  refine (walk W v0 a0 b0 v1 a1 b1 v2 a2 b2 v3 a3 b3 v4 a4 b4).mono fun e W' ⟨he, bel⟩ => ?_
  subst he
  exact ⟨_, rfl, _, _, _, [], _, [], hW', trodAll_mk1 (shut_bool Try.underlying4 _), (trodAll_cons_mk (Below.trod laidP (by kernel_rfl) (of_decide_eq_true (by kernel_rfl)) k0 bel lt0) (trodAll_cons_mk (Below.trod laidP (by kernel_rfl) (of_decide_eq_true (by kernel_rfl)) k1 bel lt1) (trodAll_cons_mk (Below.trod laidP (by kernel_rfl) (of_decide_eq_true (by kernel_rfl)) k2 bel lt2) (trodAll_cons_mk (Below.trod laidP (by kernel_rfl) (of_decide_eq_true (by kernel_rfl)) k3 bel lt3) (trodAll_cons_mk (Below.trod laidP (by kernel_rfl) (of_decide_eq_true (by kernel_rfl)) k4 bel lt4) trodAll_mk0))))), rfl, bel.frame _, fun h => by cases h⟩
theorem over : Rows.hmacDerivedRow.holds Try.pinned (OpenSpec.ofChange Rows.hmacDerivedSpec) :=
  OpenClaim.holds_of_wide 8 Try.f8 rfl rfl rfl rfl rfl rfl rfl ⟨rfl, rfl, rfl, rfl, rfl⟩ rfl rfl rfl rfl rfl (by kernel_rfl) Try.func8 (by kernel_rfl)
    (of_decide_eq_true (by kernel_rfl)) (by unfold Func.isWrapper; first | (rw [if_pos (by decide +kernel)]; kernel_rfl) | (rw [if_neg (by decide +kernel)]; exact ⟨rfl, rfl⟩))
    (fun os started H enc _ => lifted os started H enc)
theorem proved : Rows.HmacDerivedSaid := over
#print axioms proved
end Go.Proofs.Ytdedfdfagidgdaa.lawHmacDerived
