/- TokenHolder: a holder makes of a token nothing that leaves more. No condition. -/
import Derived.Test.YtdpcahfgdpikfaaGt3
import Derived.Test.YtdpcahfgdpikfaaGt27
namespace Go.Proofs.Ytdpcahfgdpikfaa.lawTokenHolder
open Go.ChangeShapes Go.WideShapes Go.ChangeAt Go.RowKit
set_option linter.unusedVariables false
set_option maxRecDepth 4000
theorem go_LTokenHolder {A B : Prop} (h : Held B → A := by
  intro hEnd
  repeat (first | refine OW_neqIF rfl rfl (by first | assumption | rfl) ?_ | refine OW_neqIT rfl rfl (by assumption) ?_ | refine OW_eqlIT rfl rfl (by first | assumption | rfl) ?_ | refine OW_eqlIF rfl rfl (by assumption) ?_ | refine OW_neqIF rfl rfl (by first | assumption | rfl) ?_ | refine OW_eqlIT rfl rfl (by first | assumption | rfl) ?_ | (refine OW_isLoad ?_; refine OW_loadM (by first | with_reducible exact agg_Grant | with_reducible exact s_agg_Tag | with_reducible exact agg_Token) rfl (by first | assumption | (apply_assumption; assumption)) ?_) | refine OW_idxN und_Grants el_Grant rfl rfl 0 rfl (by omega) ?_ | refine OW_sliceP h_slp_Tag rfl ?_ | refine OW_slicePOT a_slp_TagT rfl ?_ | refine OW_fieldB fldo_G0 rfl ?_ | refine OW_fieldB fldo_G1 rfl ?_ | refine OW_fieldB fldo_G2 rfl ?_ | refine OW_fieldB fldo_T0 rfl ?_ | refine OW_fieldB fldo_T1 rfl ?_ | refine OW_fieldB fldo_T2 rfl ?_ | refine OW_lenS und_Grants rfl ?_ | refine OW_idxN und_Grants el_Grant rfl rfl _ rfl (by omega) ?_ | refine OW_moveV (.int _ _) rfl ?_ | refine OW_moveV (.slice _ _ _) rfl ?_ | refine OW_moveV (.bool _) rfl ?_ | refine OW_moveV (.pointer _) rfl ?_ | refine OW_moveV (.string _) rfl ?_ | refine OW_moveV (.agg _) rfl ?_ | refine OW_moveV (.tuple _) rfl ?_ | refine OW_nil ?_ | refine thenE_normal ?_ | refine CW_seq ?_ | refine CW_region (by kernel_rfl) ?_ | refine OW_assignV (.int _ _) rfl ?_ | refine OW_assignV (.slice _ _ _) rfl ?_ | refine OW_assignV (.bool _) rfl ?_ | refine OW_assignV (.pointer _) rfl ?_ | refine OW_assignV (.string _) rfl ?_ | refine OW_assignV (.agg _) rfl ?_ | refine OW_assignV (.tuple _) rfl ?_ | refine OW_addI rfl rfl (by omega) ?_ | refine OW_subI rfl rfl (by omega) ?_ | refine OW_mulI rfl rfl (by omega) ?_ | refine OW_lss rfl rfl ?_ | refine OW_extract rfl rfl ?_ | refine OW_gtr rfl rfl ?_ | refine OW_leq rfl rfl ?_ | refine OW_geq rfl rfl ?_ | refine OW_eql rfl rfl ?_ | refine OW_neq rfl rfl ?_ | refine OW_not rfl ?_ | refine OW_pickT rfl _ rfl ?_ | refine OW_pickF rfl (.bool _) rfl ?_ | refine OW_pickB rfl rfl rfl ?_ | refine OW_move ?_ | refine OW_assign ?_ | refine OW_pass rfl ?_ | refine OW_take rfl ?_ | refine OW_lenS (by first | with_reducible exact und_bytes | with_reducible exact und_bytess) rfl ?_ | refine OW_convInt (by first | with_reducible exact und_u8 | with_reducible exact und_u64 | with_reducible exact und_int | with_reducible exact und_u32) (by first | with_reducible exact und_u8 | with_reducible exact und_u64 | with_reducible exact und_int | with_reducible exact und_u32) rfl ?_ | refine OW_add rfl rfl ?_ | refine OW_sub rfl rfl ?_ | refine OW_mul rfl rfl ?_ | refine OW_min2 rfl rfl ?_ | refine OW_max2 rfl rfl ?_ | refine OW_neg rfl ?_ | refine CW_block ?_ | refine CW_condT rfl ?_ | refine CW_condF rfl ?_ | refine CW_exit ?_ | refine CW_ret ?_ | refine CW_skip ?_ | refine LW_seq ?_ | refine LW_regC ?_ | refine LW_condC ?_ | refine LW_regF ?_ | refine LW_condF ?_ | refine FW_seq ?_ | refine FW_region (by kernel_rfl) ?_ | refine FW_block ?_ | refine FW_condT rfl ?_ | refine FW_condF rfl ?_ | refine FW_exit ?_ | refine FW_ret ?_ | refine FW_skip ?_ | refine LW_ret ?_ | refine LW_skip ?_ | refine thenE_exit ?_ | refine thenE_ret ?_ | refine inBlockE_normal ?_ | refine inBlockE_same ?_ | refine inBlockE_ret ?_ | refine inBlockE_ne (by rfl) ?_ | refine OW_eqlB (by with_reducible exact und_bool) rfl rfl ?_ | refine OW_neqB (by with_reducible exact und_bool) rfl rfl ?_ | refine OW_idxS (by with_reducible exact und_bytes) one_u8 rfl rfl _ rfl (by omega) ?_ | refine OW_idxS (by with_reducible exact und_bytess) one_bytes rfl rfl _ rfl (by omega) ?_ | refine OW_load1 (by first | with_reducible exact one_u8 | with_reducible exact one_bytes) rfl _ (by assumption) ?_ | (refine OW_isLoad ?_; refine OW_loadBk (by first | with_reducible exact s_int | with_reducible exact one_u8 | with_reducible exact one_grants) rfl (by assumption) _ (by rfl) ?_) | refine OW_load1 s_int rfl _ (by assumption) ?_)
  exact hEnd.out) (k : B) : A := h ⟨k⟩
set_option maxHeartbeats 8000000 in
theorem walk (w : World) (v0 : Value) (key : List UInt8) (h0 : kBs.R w [v0] key) (v1 : Value) (l : List GD) (h1 : kGrants.R w [v1] l) (cs : List Value) (g : GD) (h2 : kGrant.R w cs g) (v3 : Value) (now : Int) (h3 : kI.R w [v3] now) (v4 : Value) (need : UInt8) (h4 : kB8.R w [v4] need) : Calls Try.prog 8 #[v0, v1, .agg cs.toArray, v3, v4] w (RetV w (.bool true)) := by
  obtain ⟨A, cA, hv0, ⟨hca, hca2⟩, ha⟩ := h0
  injection hv0 with hv0
  subst hv0
  obtain ⟨B, cB, hv1, hcB, hcB2, hS⟩ := h1
  injection hv1 with hv1
  subst hv1
  obtain ⟨hl, hgk⟩ := grants_of hS
  obtain ⟨rfl, hgi⟩ := h2
  obtain ⟨hv3, hni⟩ := h3
  injection hv3 with hv3
  subst hv3
  have hv4 : [v4] = [bv need] := h4
  injection hv4 with hv4
  subst hv4
  refine calls_of_CW Try.func8 rfl (by simp [Try.ntmps8]) ?_
  rw [Try.ntmps8]
  refine go_LTokenHolder (k := ?_)
  refine OW_box _ rfl ?_
  intro w1 g7 hb7 hg7 hlt7 hx1
  have hb7 : Blk w1 g7 49 (gcells g).toArray := hb7
  refine go_LTokenHolder (k := ?_)
  refine OW_split 18 _ rfl (fun hh => ?_) (fun hh => ?_)
  · skip
    refine go_LTokenHolder (k := ?_)
    refine OW_callV Try.func28 (by kernel_rfl) rfl (awake9_any w1) rfl ?_
    intro wA hxA
    refine go_LTokenHolder (k := ?_)
    exact bodyE_ret1 rfl (.bool true) rfl ⟨rfl, hx1.trans' hxA⟩
  have hkl : key.length ≤ 100 := by have := of_decide_eq_false hh; omega
  clear hh
  refine go_LTokenHolder (k := ?_)
  refine OW_callV Try.func40 (by kernel_rfl) rfl (rLine0_any w1 B cB l (hl.ext hx1)) rfl ?_
  intro w2 hx2
  have hx02 := hx1.trans' hx2
  replace hb7 := hb7.ext hx2
  cases hok : lineOk l with
  | false =>
    refine go_LTokenHolder (k := ?_)
    refine OW_callV Try.func28 (by kernel_rfl) rfl (awake9_any w2) rfl ?_
    intro wA hxA
    refine go_LTokenHolder (k := ?_)
    exact bodyE_ret1 rfl (.bool true) rfl ⟨rfl, hx02.trans' hxA⟩
  | true =>
  refine go_LTokenHolder (k := ?_)
  refine OW_split 28 _ rfl (fun hh => ?_) (fun hh => ?_)
  · skip
    refine go_LTokenHolder (k := ?_)
    refine OW_callV Try.func28 (by kernel_rfl) rfl (awake9_any w2) rfl ?_
    intro wA hxA
    refine go_LTokenHolder (k := ?_)
    exact bodyE_ret1 rfl (.bool true) rfl ⟨rfl, hx02.trans' hxA⟩
  have hl3 : l.length ≤ 3 := by have := of_decide_eq_false hh; omega
  clear hh
  refine go_LTokenHolder (k := ?_)
  refine OW_loadX agg_Grant rfl (gcells g) rfl hb7.atL ?_
  refine go_LTokenHolder (k := ?_)
  refine OW_callV Try.func41 (by kernel_rfl) rfl (rMay_any w2 g) rfl ?_
  intro w3 hx3
  have hx03 := hx02.trans' hx3
  replace hb7 := hb7.ext hx3
  cases hgm : mayG g with
  | false =>
    refine go_LTokenHolder (k := ?_)
    refine OW_callV Try.func28 (by kernel_rfl) rfl (awake9_any w3) rfl ?_
    intro wA hxA
    refine go_LTokenHolder (k := ?_)
    exact bodyE_ret1 rfl (.bool true) rfl ⟨rfl, hx03.trans' hxA⟩
  | true =>
  have ht0 : (0 : Int) ≤ 1 ∧ (1 : Int) ≤ 8 := by decide
  have hl2 := line_snoc hok hl3 hgm
  have hatt := att_mk hok hl3 hgm ht0 key
  have hck := check_mk hl2 ht0 key
  have him := ver_mono hok hl3 hgm ht0 key now need
  have x1 := tagL_len key 1 l
  have x2 := tagL_len key 1 (l ++ [g])
  have tT := fun v => tcells_length (t := ⟨1, l, tagL key 1 l⟩) x1 v
  have tU := fun v => tcells_length (t := ⟨1, l ++ [g], tagL key 1 (l ++ [g])⟩) x2 v
  have hn1 : l.length ≤ 10000 := by omega
  have hn2 : (l ++ [g]).length ≤ 10000 := by simp; omega
  have hka : key.length ≤ 80000 := by omega
  have hmk := made_any w3 A B cA cB key 1 l (ha.ext hx03) hca hka ht0 (hl.ext hx03) hcB hok
  obtain ⟨X1, hX1⟩ : ∃ X1, tagL key 1 l = X1 := ⟨_, rfl⟩
  obtain ⟨X2, hX2⟩ : ∃ X2, tagL key 1 (l ++ [g]) = X2 := ⟨_, rfl⟩
  rw [hX1] at hmk hatt him x1 tT
  rw [hX2] at hatt hck him x2 tU
  refine go_LTokenHolder (k := ?_)
  refine OW_callC Try.func42 (by kernel_rfl) rfl hmk rfl ?_
  rintro en w4 ⟨A4, c4, rfl, hG4, hc4, hx4⟩
  refine ⟨_, rfl, ?_⟩
  clear hmk
  refine go_LTokenHolder (k := ?_)
  refine OW_allocA agg_Token ?_
  intro u11 g11 hb11 hg11 hlt11 hxa11
  refine go_LTokenHolder (k := ?_)
  refine OW_storeA agg_Token rfl (tcells ⟨1, l, X1⟩ (.slice A4 l.length c4)) rfl (tT _) hb11 (by kernel_rfl) (tcells_one _ _ _ _) ?_
  intro w5 hb11 hgr11
  have hxb11 : Ext w4 w5 := (Keeps.of_only hgr11 (S := (· = g11)) rfl).ext hxa11 (fun j hj => by have hj : j = g11 := hj; omega)
  clear hgr11 hxa11
  replace hG4 := hG4.ext hxb11
  have hx05 := hx03.trans' (hx4.trans' hxb11)
  replace hb7 := hb7.ext (hx4.trans' hxb11)
  refine go_LTokenHolder (k := ?_)
  refine OW_loadX agg_Token rfl (tcells ⟨1, l, X1⟩ (.slice A4 l.length c4)) (tT _) hb11.atL ?_
  refine go_LTokenHolder (k := ?_)
  refine OW_loadX agg_Grant rfl (gcells g) rfl hb7.atL ?_
  have hA := tokAtt_any w5 A4 c4 ⟨1, l, X1⟩ g hG4 hc4 hn1 x1
  rw [hatt] at hA
  refine go_LTokenHolder (k := ?_)
  refine OW_callC Try.func34 (by kernel_rfl) rfl hA rfl ?_
  rintro en w6 ⟨A5, c5, rfl, hO5, hx6⟩
  refine ⟨_, rfl, ?_⟩
  clear hA
  have hG5 := hO5.rd
  have hc5 := hO5.cap
  clear hO5
  refine go_LTokenHolder (k := ?_)
  refine OW_allocA agg_Token ?_
  intro u13 g13 hb13 hg13 hlt13 hxa13
  refine go_LTokenHolder (k := ?_)
  refine OW_storeA agg_Token rfl (tcells ⟨1, l ++ [g], X2⟩ (.slice A5 (l ++ [g]).length c5)) rfl (tU _) hb13 (by kernel_rfl) (tcells_one _ _ _ _) ?_
  intro w7 hb13 hgr13
  have hxb13 : Ext w6 w7 := (Keeps.of_only hgr13 (S := (· = g13)) rfl).ext hxa13 (fun j hj => by have hj : j = g13 := hj; omega)
  clear hgr13 hxa13
  replace hG5 : GRd w7 A5 (l ++ [g]) := hG5.ext hxb13
  have hx57 := hx6.trans' hxb13
  replace hG4 := hG4.ext hx57
  replace hb11 := hb11.ext hx57
  have hx07 := hx05.trans' hx57
  refine go_LTokenHolder (k := ?_)
  refine OW_loadX agg_Token rfl (tcells ⟨1, l ++ [g], X2⟩ (.slice A5 (l ++ [g]).length c5)) (tU _) hb13.atL ?_
  have hC := tokCheck_any w7 A A5 cA c5 key ⟨1, l ++ [g], X2⟩ (ha.ext hx07) hca hka hG5 hc5 hn2 x2
  rw [hck] at hC
  refine go_LTokenHolder (k := ?_)
  refine OW_callV Try.func38 (by kernel_rfl) rfl hC rfl ?_
  intro w8 hx8
  clear hC
  have hx08 := hx07.trans' hx8
  replace hb11 := hb11.ext hx8
  replace hb13 := hb13.ext hx8
  replace hG4 := hG4.ext hx8
  replace hG5 := hG5.ext hx8
  refine go_LTokenHolder (k := ?_)
  refine OW_loadX agg_Token rfl (tcells ⟨1, l ++ [g], X2⟩ (.slice A5 (l ++ [g]).length c5)) (tU _) hb13.atL ?_
  refine go_LTokenHolder (k := ?_)
  refine OW_callV Try.func39 (by kernel_rfl) rfl (tokVerify_any w8 A A5 cA c5 key ⟨1, l ++ [g], X2⟩ now need (ha.ext hx08) hca hka hG5 hc5 hn2 x2) rfl ?_
  intro w9 hx9
  have hx09 := hx08.trans' hx9
  replace hb11 := hb11.ext hx9
  replace hb13 := hb13.ext hx9
  replace hG4 := hG4.ext hx9
  replace hG5 := hG5.ext hx9
  obtain ⟨vu, hvu⟩ : ∃ vu, verT key ⟨1, l ++ [g], X2⟩ now need = vu := ⟨_, rfl⟩
  rw [hvu] at him ⊢
  by_cases h0 : vu = 0
  · have hV := tokVerify_any w9 A A4 cA c4 key ⟨1, l, X1⟩ now need (ha.ext hx09) hca hka hG4 hc4 hn1 x1
    rw [him h0] at hV
    refine go_LTokenHolder (k := ?_)
    refine OW_loadX agg_Token rfl (tcells ⟨1, l, X1⟩ (.slice A4 l.length c4)) (tT _) hb11.atL ?_
    refine go_LTokenHolder (k := ?_)
    refine OW_callV Try.func39 (by kernel_rfl) rfl hV rfl ?_
    intro w10 hx10
    have hbx := hb11.ext hx10
    have hby := hb13.ext hx10
    refine go_LTokenHolder (k := ?_)
    refine OW_callV Try.func43 (by kernel_rfl) rfl (within_any w10 A5 A4 c5 c4 (l ++ [g]) l (hG5.ext hx10) (hG4.ext hx10) hl2 hok (leaves_snoc l g).1 (leaves_snoc l g).2) rfl ?_
    intro wB hxB
    have hx0B := (hx09.trans' hx10).trans' hxB
    refine go_LTokenHolder (k := ?_)
    refine OW_callV Try.func28 (by kernel_rfl) rfl (awake9_any wB) rfl ?_
    intro wA hxA
    refine go_LTokenHolder (k := ?_)
    exact bodyE_ret1 rfl (.bool true) rfl ⟨rfl, hx0B.trans' hxA⟩
  · refine go_LTokenHolder (k := ?_)
    refine OW_callV Try.func43 (by kernel_rfl) rfl (within_any w9 A5 A4 c5 c4 (l ++ [g]) l hG5 hG4 hl2 hok (leaves_snoc l g).1 (leaves_snoc l g).2) rfl ?_
    intro wB hxB
    have hx0B := hx09.trans' hxB
    refine go_LTokenHolder (k := ?_)
    refine OW_callV Try.func28 (by kernel_rfl) rfl (awake9_any wB) rfl ?_
    intro wA hxA
    refine go_LTokenHolder (k := ?_)
    exact bodyE_ret1 rfl (.bool true) rfl ⟨rfl, hx0B.trans' hxA⟩
set_option maxRecDepth 100000 in
theorem lifted (os : Os) (started : os.Started) (H : Type) (enc : TypeId × Value → H) :
    ReturnsInHanded {} Try.checked os 8 .any (Rows.tokenHolderSpec.pre6 enc Try.prog Try.f8 Rows.tokenHolderRow.domain false) (Rows.tokenHolderSpec.post enc Try.prog Try.f8 false true false false) := by
  refine returnsInHanded_of_change_sized (C := Try.checked) ownP started (by kernel_rfl) Try.func8
    (ChangeSpec.witness6 (enc := enc) (C := Try.checked) false ⟨#[], #[.slice none 0 0, .slice none 0 0, .agg (gcells ⟨0, 0, 0⟩).toArray, .int .i64 0, .int .u8 0], []⟩ 8 (by kernel_rfl) (by kernel_rfl) (by kernel_rfl) (by kernel_rfl)) ?_
  intro W base args ds gs before hval0 hW hcnd hwt0 _
  have hval : ∀ (j : Nat) t v, Try.f8.params[j]? = some t → args[j]? = some v → Value.okWide Try.prog W .any base t v := hval0
  have hW' := hW
  obtain ⟨p, q, hA0, hV, rfl, hfz, hnd⟩ := hW
  have hA : DataW.TrodAll enc Try.prog W 0 (fun _ => true) true Try.f8.params.toList args.toList ds p := hA0
  have hwt : (DataW.weightsEach Try.prog (Try.f8.params.toList ++ []) (ds ++ gs)).all (· ≤ reachBytes) = true := hwt0
  rw [Try.params8] at hA hval hwt
  obtain ⟨v0, vs0, d0, ds0, p0, q0, hargs, rfl, rfl, h0, r0⟩ := trodAll_cons hA
  obtain ⟨v1, vs1, d1, ds1, p1, q1, rfl, rfl, rfl, h1, r1⟩ := trodAll_cons r0
  obtain ⟨v2, vs2, d2, ds2, p2, q2, rfl, rfl, rfl, h2, r2⟩ := trodAll_cons r1
  obtain ⟨v3, vs3, d3, ds3, p3, q3, rfl, rfl, rfl, h3, r3⟩ := trodAll_cons r2
  obtain ⟨v4, vs4, d4, ds4, p4, q4, rfl, rfl, rfl, h4, r4⟩ := trodAll_cons r3
  obtain ⟨rfl, rfl, rfl⟩ := trodAll_nil r4
  obtain rfl : args = #[v0, v1, v2, v3, v4] := by cases args; simp_all
  obtain ⟨rfl, rfl⟩ := trodVars_none hV
  have k0 := h0
  have lt0 : ∀ x ∈ p0, x.block < W.heap.size := by obtain ⟨m, hm⟩ := k0; exact DataW.trod_lt m _ _ _ hm
  have wk0 : WOk Try.prog 22 d0 := wok_each hwt 0 rfl rfl
  obtain ⟨a0, b0⟩ := kd_slice kBs und_bytes (hval 0 22 v0 rfl rfl) h0 wk0
  have k1 := h1
  have lt1 : ∀ x ∈ p1, x.block < W.heap.size := by obtain ⟨m, hm⟩ := k1; exact DataW.trod_lt m _ _ _ hm
  have wk1 : WOk Try.prog 43 d1 := wok_each hwt 1 rfl rfl
  obtain ⟨a1, b1⟩ := kd_slice kGrants und_Grants (hval 1 43 v1 rfl rfl) h1 wk1
  have k2 := h2
  have lt2 : ∀ x ∈ p2, x.block < W.heap.size := by obtain ⟨m, hm⟩ := k2; exact DataW.trod_lt m _ _ _ hm
  have wk2 : WOk Try.prog 49 d2 := wok_each hwt 2 rfl rfl
  obtain ⟨cs2, a2, rfl, b2⟩ := kd_struct kGrant Try.underlying49 (hval 2 49 v2 rfl rfl) h2 wk2
  have k3 := h3
  have lt3 : ∀ x ∈ p3, x.block < W.heap.size := by obtain ⟨m, hm⟩ := k3; exact DataW.trod_lt m _ _ _ hm
  have wk3 : WOk Try.prog 3 d3 := wok_each hwt 3 rfl rfl
  obtain ⟨a3, b3⟩ := kd_int kI und_int (hval 3 3 v3 rfl rfl) h3 wk3
  have k4 := h4
  have lt4 : ∀ x ∈ p4, x.block < W.heap.size := by obtain ⟨m, hm⟩ := k4; exact DataW.trod_lt m _ _ _ hm
  have wk4 : WOk Try.prog 5 d4 := wok_each hwt 4 rfl rfl
  obtain ⟨a4, b4⟩ := kd_int kB8 und_u8 (hval 4 5 v4 rfl rfl) h4 wk4
  clear hA0 hval0 hwt0
  refine (walk W v0 a0 b0 v1 a1 b1 cs2 a2 b2 v3 a3 b3 v4 a4 b4).mono fun e W' ⟨he, bel⟩ => ?_
  subst he
  exact ⟨_, rfl, _, _, _, [], _, [], hW', trodAll_mk1 (shut_bool Try.underlying4 _), (trodAll_cons_mk (Below.trod laidP (by kernel_rfl) (of_decide_eq_true (by kernel_rfl)) k0 bel lt0) (trodAll_cons_mk (Below.trod laidP (by kernel_rfl) (of_decide_eq_true (by kernel_rfl)) k1 bel lt1) (trodAll_cons_mk (Below.trod laidP (by kernel_rfl) (of_decide_eq_true (by kernel_rfl)) k2 bel lt2) (trodAll_cons_mk (Below.trod laidP (by kernel_rfl) (of_decide_eq_true (by kernel_rfl)) k3 bel lt3) (trodAll_cons_mk (Below.trod laidP (by kernel_rfl) (of_decide_eq_true (by kernel_rfl)) k4 bel lt4) trodAll_mk0))))), rfl, bel.frame _, fun h => by cases h⟩
theorem over : Rows.tokenHolderRow.holds Try.pinned (OpenSpec.ofChange Rows.tokenHolderSpec) :=
  OpenClaim.holds_of_wide 8 Try.f8 rfl rfl rfl rfl rfl rfl rfl ⟨rfl, rfl, rfl, rfl, rfl⟩ rfl rfl rfl rfl rfl (by kernel_rfl) Try.func8 (by kernel_rfl)
    (of_decide_eq_true (by kernel_rfl)) (by unfold Func.isWrapper; first | (rw [if_pos (by decide +kernel)]; kernel_rfl) | (rw [if_neg (by decide +kernel)]; exact ⟨rfl, rfl⟩))
    (fun os started H enc _ => lifted os started H enc)
theorem proved : Rows.TokenHolderSaid := over
#print axioms proved
end Go.Proofs.Ytdpcahfgdpikfaa.lawTokenHolder
