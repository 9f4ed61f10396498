/- HmacDerive: of any key, label, and numbers that is derived which the chapter says; what is told is the caller's own. No condition. -/
import Derived.Test.YtdedfdfagidgdaaHm4
namespace Go.Proofs.Ytdedfdfagidgdaa.lawHmacDerive
open Go.ChangeShapes Go.WideShapes Go.ChangeAt Go.RowKit
set_option linter.unusedVariables false
theorem go_LHmacDerive {A B : Prop} (h : Held B → A := by
  intro hEnd
  repeat (first | refine OW_moveV (.int _ _) rfl ?_ | refine OW_moveV (.slice _ _ _) rfl ?_ | refine OW_moveV (.bool _) rfl ?_ | refine OW_moveV (.pointer _) rfl ?_ | refine OW_moveV (.string _) rfl ?_ | refine OW_moveV (.agg _) rfl ?_ | refine OW_moveV (.tuple _) rfl ?_ | refine OW_nil ?_ | refine thenE_normal ?_ | refine CW_seq ?_ | refine CW_region (by kernel_rfl) ?_ | refine OW_assignV (.int _ _) rfl ?_ | refine OW_assignV (.slice _ _ _) rfl ?_ | refine OW_assignV (.bool _) rfl ?_ | refine OW_assignV (.pointer _) rfl ?_ | refine OW_assignV (.string _) rfl ?_ | refine OW_assignV (.agg _) rfl ?_ | refine OW_assignV (.tuple _) rfl ?_ | refine OW_addI rfl rfl (by omega) ?_ | refine OW_subI rfl rfl (by omega) ?_ | refine OW_mulI rfl rfl (by omega) ?_ | refine OW_lss rfl rfl ?_ | refine OW_extract rfl rfl ?_ | refine OW_gtr rfl rfl ?_ | refine OW_leq rfl rfl ?_ | refine OW_geq rfl rfl ?_ | refine OW_eql rfl rfl ?_ | refine OW_neq rfl rfl ?_ | refine OW_not rfl ?_ | refine OW_pickT rfl _ rfl ?_ | refine OW_pickF rfl (.bool _) rfl ?_ | refine OW_pickB rfl rfl rfl ?_ | refine OW_move ?_ | refine OW_assign ?_ | refine OW_pass rfl ?_ | refine OW_take rfl ?_ | refine OW_lenS (by first | with_reducible exact und_bytes | with_reducible exact und_bytess) rfl ?_ | refine OW_convInt (by first | with_reducible exact und_u8 | with_reducible exact und_u64 | with_reducible exact und_int | with_reducible exact und_u32) (by first | with_reducible exact und_u8 | with_reducible exact und_u64 | with_reducible exact und_int | with_reducible exact und_u32) rfl ?_ | refine OW_add rfl rfl ?_ | refine OW_sub rfl rfl ?_ | refine OW_mul rfl rfl ?_ | refine OW_min2 rfl rfl ?_ | refine OW_max2 rfl rfl ?_ | refine OW_neg rfl ?_ | refine CW_block ?_ | refine CW_condT rfl ?_ | refine CW_condF rfl ?_ | refine CW_exit ?_ | refine CW_ret ?_ | refine CW_skip ?_ | refine LW_seq ?_ | refine LW_regC ?_ | refine LW_condC ?_ | refine LW_regF ?_ | refine LW_condF ?_ | refine FW_seq ?_ | refine FW_region (by kernel_rfl) ?_ | refine FW_block ?_ | refine FW_condT rfl ?_ | refine FW_condF rfl ?_ | refine FW_exit ?_ | refine FW_ret ?_ | refine FW_skip ?_ | refine LW_ret ?_ | refine LW_skip ?_ | refine thenE_exit ?_ | refine thenE_ret ?_ | refine inBlockE_normal ?_ | refine inBlockE_same ?_ | refine inBlockE_ret ?_ | refine inBlockE_ne (by rfl) ?_ | refine OW_eqlB (by with_reducible exact und_bool) rfl rfl ?_ | refine OW_neqB (by with_reducible exact und_bool) rfl rfl ?_ | refine OW_idxS (by with_reducible exact und_bytes) one_u8 rfl rfl _ rfl (by omega) ?_ | refine OW_idxS (by with_reducible exact und_bytess) one_bytes rfl rfl _ rfl (by omega) ?_ | refine OW_load1 (by first | with_reducible exact one_u8 | with_reducible exact one_bytes) rfl _ (by assumption) ?_ | refine OW_lenS und_ints rfl ?_ | refine OW_lenT Try.underlying9 rfl ?_)
  exact hEnd.out) (k : B) : A := h ⟨k⟩
set_option maxHeartbeats 8000000 in
theorem walk (w : World) (v0 : Value) (key : List UInt8) (h0 : kBs.R w [v0] key) (v1 : Value) (s : ByteArray) (h1 : kSt.R w [v1] s) (v2 : Value) (l : List Int) (h2 : kIs.R w [v2] l) :
    Calls Try.prog 5 #[v0, v1, v2] w (RetV w (.bool true)) := by
  obtain ⟨A, cA, hv0, ⟨hca, hca2⟩, ha⟩ := h0
  obtain ⟨hv1, hls⟩ := h1
  obtain ⟨L, cL, hv2, hcL, hcL2, hL⟩ := h2
  replace hL := is_of hL
  injection hv0 with hv0
  injection hv1 with hv1
  injection hv2 with hv2
  subst hv0; subst hv1; subst hv2
  have hss : s.size = s.data.toList.length := by rw [Array.length_toList]; rfl
  refine calls_of_CW Try.func5 rfl (by simp [Try.ntmps5]) ?_
  rw [Try.ntmps5]
  refine go_LHmacDerive (k := ?_)
  refine OW_split 14 _ rfl (fun h => ?_) (fun h => ?_)
  · refine go_LHmacDerive (k := ?_)
    exact bodyE_ret1 rfl (.bool true) rfl ⟨rfl, Ext.rfl' w⟩
  have hla : key.length ≤ 500 := by simp at h; omega
  clear h
  refine go_LHmacDerive (k := ?_)
  refine OW_split 19 _ rfl (fun h => ?_) (fun h => ?_)
  · refine go_LHmacDerive (k := ?_)
    exact bodyE_ret1 rfl (.bool true) rfl ⟨rfl, Ext.rfl' w⟩
  have hs5 : s.data.toList.length ≤ 500 := by have := of_decide_eq_false h; omega
  clear h
  refine go_LHmacDerive (k := ?_)
  refine CW_cond _ rfl (fun h => ?_) (fun h => ?_)
  · refine go_LHmacDerive (k := ?_)
    exact bodyE_ret1 rfl (.bool true) rfl ⟨rfl, Ext.rfl' w⟩
  have hll : l.length ≤ 20 := by simp at h; omega
  clear h
  clear hls hca2 hcL2
  refine go_LHmacDerive (k := ?_)
  refine OW_callBs Try.func15 (by kernel_rfl) rfl (refDerive_any w A cA key ha (by omega) s (by omega) L cL l hL (by omega)) rfl ?_
  intro w1 D cD hD
  have hol := hmacL_length key (formB s l)
  refine go_LHmacDerive (k := ?_)
  refine CW_loop (fun e' w' => ∃ t : Nat, t ≤ 2 ∧ e' 0 = .slice A key.length cA ∧ e' 1 = .string s ∧ e' 2 = .slice L l.length cL ∧ e' 7 = .slice D (hmacL key (formB s l)).length cD ∧ e' 8 = .int .i64 t ∧ Ext w1 w') (fun e' _ => 2 - (intOf (e' 8)).toNat) ?_ ?_
  · exact ⟨0, by omega, rfl, rfl, rfl, rfl, rfl, Ext.rfl' _⟩
  rintro e5 w5 ⟨t, ht, q0, q1, q2, q7, q8, hx⟩
  rw [upd_self q0, upd_self q1, upd_self q2, upd_self q7, upd_self q8]
  have hx0 := hD.ext.trans' hx
  refine go_LHmacDerive (k := ?_)
  refine CW_cond _ rfl (fun hh => ?_) (fun hh => ?_)
  · have hlt : t < 2 := by have := of_decide_eq_true hh; omega
    clear hh
    refine go_LHmacDerive (k := ?_)
    refine OW_callBs Try.func16 (by kernel_rfl) rfl (hderive_any w5 A cA key (ha.ext hx0) hca (by omega) s (by omega) L cL l (hL.ext hx0) (by omega)) rfl ?_
    intro w2 X cX hX
    have hbD := hD.bs.ext (hx.trans' hX.ext)
    generalize hmacL key (formB s l) = out at *
    refine go_LHmacDerive (k := ?_)
    refine OW_callV Try.func14 (by kernel_rfl) rfl (refSame_any w2 X D out out cX cD hX.bs hbD (by omega)) rfl ?_
    intro w3 hx3
    rw [beq_self_eq_true]
    have o3 := own_ext hX.own hx3
    have hx13 := (hx.trans' hX.ext).trans' hx3
    have hxs := hx.size
    have hx23 := hX.ext.trans' hx3
    refine go_LHmacDerive (k := ?_)
    refine CW_loop (fun e' w' => ∃ (k : Nat) (zs : List UInt8), k ≤ out.length ∧ zs.length = out.length ∧ e' 9 = .slice X out.length cX ∧ e' 10 = .int .i64 k ∧ e' 0 = .slice A key.length cA ∧ e' 1 = .string s ∧ e' 2 = .slice L l.length cL ∧ e' 7 = .slice D out.length cD ∧ e' 8 = .int .i64 t ∧ w'.ownsRow w5.heap.size 23 1 (.slice X out.length cX) out.length (zs.map bv) ∧ w3.grownBy w' (Value.ownBlock (.slice X out.length cX))) (fun e' _ => out.length - (intOf (e' 10)).toNat) ?_ ?_
    · exact ⟨0, out, Nat.zero_le _, rfl, rfl, rfl, rfl, rfl, rfl, rfl, rfl, o3, World.grownBy.refl _ _⟩
    rintro ea wa ⟨ka, za, hak, haz, has, hai, qa_0, qa_1, qa_2, qa_7, qa_8, hao, hag⟩
    rw [upd_self has, upd_self hai, upd_self qa_0, upd_self qa_1, upd_self qa_2, upd_self qa_7, upd_self qa_8]
    refine go_LHmacDerive (k := ?_)
    refine CW_cond _ rfl (fun hh => ?_) (fun _ => ?_)
    · have hlt : ka < out.length := by simpa using hh
      obtain ⟨g, cur, hA, hg, _⟩ := own_blk hao (by omega)
      subst hA
      have hcell := inc_cell hao haz hlt
      have hst := inc_step hao haz hlt (za[ka]'(by omega) + 1)
      refine go_LHmacDerive (k := ?_)
      rw [inc_u8]
      refine go_LHmacDerive (k := ?_)
      rw [add0] at hcell ⊢
      refine OW_store1 one_u8 rfl (bv (za[ka]'(by omega) + 1)) (bv (za[ka]'(by omega))) rfl rfl hcell (hao.frozenAt ka) ?_
      refine go_LHmacDerive (k := ?_)
      refine ⟨⟨ka + 1, _, by omega, by simp [haz], rfl, rfl, rfl, rfl, rfl, rfl, rfl, hst.1, grown_trans' hag hst.2⟩, ?_⟩
      show out.length - ((ka : Int) + 1).toNat < out.length - (ka : Int).toNat
      omega
    refine go_LHmacDerive (k := ?_)
    have hxa : Ext w5 wa := ext_grown hx23 o3 hag
    refine ⟨⟨t + 1, by omega, rfl, rfl, rfl, rfl, rfl, hx.trans' hxa⟩, ?_⟩
    show 2 - ((t : Int) + 1).toNat < 2 - (t : Int).toNat
    omega
  · refine go_LHmacDerive (k := ?_)
    exact bodyE_ret1 rfl (.bool true) rfl ⟨rfl, hx0⟩
set_option maxRecDepth 100000 in
theorem lifted (os : Os) (started : os.Started) (H : Type) (enc : TypeId × Value → H) :
    ReturnsInHanded {} Try.checked os 5 .any (Rows.hmacDeriveSpec.pre6 enc Try.prog Try.f5 Rows.hmacDeriveRow.domain false) (Rows.hmacDeriveSpec.post enc Try.prog Try.f5 false true false false) := by
  refine returnsInHanded_of_change_sized (C := Try.checked) ownP started (by kernel_rfl) Try.func5
    (ChangeSpec.witness6 (enc := enc) (C := Try.checked) false ⟨#[], #[.slice none 0 0, .string ⟨#[]⟩, .slice none 0 0], []⟩ 8 (by kernel_rfl) (by kernel_rfl) (by kernel_rfl) (by kernel_rfl)) ?_
  intro W base args ds gs before hval0 hW hcnd hwt0 _
  have hval : ∀ (j : Nat) t v, Try.f5.params[j]? = some t → args[j]? = some v → Value.okWide Try.prog W .any base t v := hval0
  have hW' := hW
  obtain ⟨p, q, hA0, hV, rfl, hfz, hnd⟩ := hW
  have hA : DataW.TrodAll enc Try.prog W 0 (fun _ => true) true Try.f5.params.toList args.toList ds p := hA0
  have hwt : (DataW.weightsEach Try.prog (Try.f5.params.toList ++ []) (ds ++ gs)).all (· ≤ reachBytes) = true := hwt0
  rw [Try.params5] at hA hval hwt
  obtain ⟨v0, vs0, d0, ds0, p0, q0, hargs, rfl, rfl, h0, r0⟩ := trodAll_cons hA
  obtain ⟨v1, vs1, d1, ds1, p1, q1, rfl, rfl, rfl, h1, r1⟩ := trodAll_cons r0
  obtain ⟨v2, vs2, d2, ds2, p2, q2, rfl, rfl, rfl, h2, r2⟩ := trodAll_cons r1
  obtain ⟨rfl, rfl, rfl⟩ := trodAll_nil r2
  obtain rfl : args = #[v0, v1, v2] := by cases args; simp_all
  obtain ⟨rfl, rfl⟩ := trodVars_none hV
  have k0 := h0
  have lt0 : ∀ x ∈ p0, x.block < W.heap.size := by obtain ⟨m, hm⟩ := k0; exact DataW.trod_lt m _ _ _ hm
  have wk0 : WOk Try.prog 25 d0 := wok_each hwt 0 rfl rfl
  obtain ⟨a0, b0⟩ := kd_slice kBs und_bytes (hval 0 25 v0 rfl rfl) h0 wk0
  have k1 := h1
  have lt1 : ∀ x ∈ p1, x.block < W.heap.size := by obtain ⟨m, hm⟩ := k1; exact DataW.trod_lt m _ _ _ hm
  have wk1 : WOk Try.prog 9 d1 := wok_each hwt 1 rfl rfl
  obtain ⟨a1, b1⟩ := kd_str kSt Try.underlying9 (hval 1 9 v1 rfl rfl) h1 wk1
  have k2 := h2
  have lt2 : ∀ x ∈ p2, x.block < W.heap.size := by obtain ⟨m, hm⟩ := k2; exact DataW.trod_lt m _ _ _ hm
  have wk2 : WOk Try.prog 29 d2 := wok_each hwt 2 rfl rfl
  obtain ⟨a2, b2⟩ := kd_slice kIs und_ints (hval 2 29 v2 rfl rfl) h2 wk2
  clear hA0 hval0 hwt0
  refine (walk W v0 a0 b0 v1 a1 b1 v2 a2 b2).mono fun e W' ⟨he, bel⟩ => ?_
  subst he
  exact ⟨_, rfl, _, _, _, [], _, [], hW', trodAll_mk1 (shut_bool Try.underlying4 _), (trodAll_cons_mk (Below.trod laidP (by kernel_rfl) (of_decide_eq_true (by kernel_rfl)) k0 bel lt0) (trodAll_cons_mk (Below.trod laidP (by kernel_rfl) (of_decide_eq_true (by kernel_rfl)) k1 bel lt1) (trodAll_cons_mk (Below.trod laidP (by kernel_rfl) (of_decide_eq_true (by kernel_rfl)) k2 bel lt2) trodAll_mk0))), rfl, bel.frame _, fun h => by cases h⟩
theorem over : Rows.hmacDeriveRow.holds Try.pinned (OpenSpec.ofChange Rows.hmacDeriveSpec) :=
  OpenClaim.holds_of_wide 5 Try.f5 rfl rfl rfl rfl rfl rfl rfl ⟨rfl, rfl, rfl, rfl, rfl⟩ rfl rfl rfl rfl rfl (by kernel_rfl) Try.func5 (by kernel_rfl)
    (of_decide_eq_true (by kernel_rfl)) (by unfold Func.isWrapper; first | (rw [if_pos (by decide +kernel)]; kernel_rfl) | (rw [if_neg (by decide +kernel)]; exact ⟨rfl, rfl⟩))
    (fun os started H enc _ => lifted os started H enc)
theorem proved : Rows.HmacDeriveSaid := over
#print axioms proved
end Go.Proofs.Ytdedfdfagidgdaa.lawHmacDerive
