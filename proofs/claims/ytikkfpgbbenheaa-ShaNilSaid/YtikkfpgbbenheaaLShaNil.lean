/- ShaNil: a hash that nobody made is none. No condition. -/
import Derived.Test.YtikkfpgbbenheaaShaN
import Derived.Test.YtikkfpgbbenheaaFrame
namespace Go.Proofs.Ytikkfpgbbenheaa.lawShaNil
open Go.ChangeShapes Go.WideShapes Go.ChangeAt Go.RowKit
set_option linter.unusedVariables false
theorem go_LShaNil {A B : Prop} (h : Held B → A := by
  intro hEnd
  repeat (first | refine OW_moveV (.int _ _) rfl ?_ | refine OW_moveV (.slice _ _ _) rfl ?_ | refine OW_moveV (.bool _) rfl ?_ | refine OW_moveV (.pointer _) rfl ?_ | refine OW_moveV (.string _) rfl ?_ | refine OW_moveV (.agg _) rfl ?_ | refine OW_moveV (.tuple _) rfl ?_ | refine OW_nil ?_ | refine thenE_normal ?_ | refine CW_seq ?_ | refine CW_region (by kernel_rfl) ?_ | refine OW_assignV (.int _ _) rfl ?_ | refine OW_assignV (.slice _ _ _) rfl ?_ | refine OW_assignV (.bool _) rfl ?_ | refine OW_assignV (.pointer _) rfl ?_ | refine OW_assignV (.string _) rfl ?_ | refine OW_assignV (.agg _) rfl ?_ | refine OW_assignV (.tuple _) rfl ?_ | refine OW_addI rfl rfl (by omega) ?_ | refine OW_subI rfl rfl (by omega) ?_ | refine OW_mulI rfl rfl (by omega) ?_ | refine OW_lss rfl rfl ?_ | refine OW_extract rfl rfl ?_ | refine OW_gtr rfl rfl ?_ | refine OW_leq rfl rfl ?_ | refine OW_geq rfl rfl ?_ | refine OW_eql rfl rfl ?_ | refine OW_neq rfl rfl ?_ | refine OW_not rfl ?_ | refine OW_pickT rfl _ rfl ?_ | refine OW_pickF rfl (.bool _) rfl ?_ | refine OW_pickB rfl rfl rfl ?_ | refine OW_move ?_ | refine OW_assign ?_ | refine OW_pass rfl ?_ | refine OW_take rfl ?_ | refine OW_lenS (by first | with_reducible exact und_bytes | with_reducible exact und_bytess) rfl ?_ | refine OW_convInt (by first | with_reducible exact und_u8 | with_reducible exact und_u64 | with_reducible exact und_int | with_reducible exact und_u32) (by first | with_reducible exact und_u8 | with_reducible exact und_u64 | with_reducible exact und_int | with_reducible exact und_u32) rfl ?_ | refine OW_add rfl rfl ?_ | refine OW_sub rfl rfl ?_ | refine OW_mul rfl rfl ?_ | refine OW_min2 rfl rfl ?_ | refine OW_max2 rfl rfl ?_ | refine OW_neg rfl ?_ | refine CW_block ?_ | refine CW_condT rfl ?_ | refine CW_condF rfl ?_ | refine CW_exit ?_ | refine CW_ret ?_ | refine CW_skip ?_ | refine LW_seq ?_ | refine LW_regC ?_ | refine LW_condC ?_ | refine LW_regF ?_ | refine LW_condF ?_ | refine FW_seq ?_ | refine FW_region (by kernel_rfl) ?_ | refine FW_block ?_ | refine FW_condT rfl ?_ | refine FW_condF rfl ?_ | refine FW_exit ?_ | refine FW_ret ?_ | refine FW_skip ?_ | refine LW_ret ?_ | refine LW_skip ?_ | refine thenE_exit ?_ | refine thenE_ret ?_ | refine inBlockE_normal ?_ | refine inBlockE_same ?_ | refine inBlockE_ret ?_ | refine inBlockE_ne (by rfl) ?_ | refine OW_eqlB (by with_reducible exact und_bool) rfl rfl ?_ | refine OW_neqB (by with_reducible exact und_bool) rfl rfl ?_ | refine OW_idxS (by with_reducible exact und_bytes) one_u8 rfl rfl _ rfl (by omega) ?_ | refine OW_idxS (by with_reducible exact und_bytess) one_bytes rfl rfl _ rfl (by omega) ?_ | refine OW_load1 (by first | with_reducible exact one_u8 | with_reducible exact one_bytes) rfl _ (by assumption) ?_)
  exact hEnd.out) (k : B) : A := h ⟨k⟩
theorem und_pHs : Try.prog.underlying 29 = some (.slice 23) := Try.underlying29
theorem info_pH : (Try.prog.info? 23).map (fun i => (i.zero, i.size, i.bytes)) = some (some (.pointer none), 1, 8) := by kernel_rfl
set_option maxHeartbeats 8000000 in
theorem walk (w : World) (A : Option Addr) (cA : Nat) (a : List UInt8) (ha : Bs w A a) (hca : a.length ≤ cA) :
    Calls Try.prog 3 #[.slice A a.length cA] w (RetV w (.bool true)) := by
  refine calls_of_CW Try.func3 rfl (by simp [Try.ntmps3]) ?_
  rw [Try.ntmps3]
  refine go_LShaNil (k := ?_)
  refine CW_cond _ rfl (fun h => ?_) (fun h => ?_)
  · refine go_LShaNil (k := ?_)
    exact bodyE_ret1 rfl (.bool true) rfl ⟨rfl, Ext.rfl' w⟩
  clear h
  refine go_LShaNil (k := ?_)
  refine OW_build _ _ bld_H0 rfl ?_
  refine go_LShaNil (k := ?_)
  refine OW_box _ rfl ?_
  intro w1 g hb hg hlt hx1
  refine go_LShaNil (k := ?_)
  refine OW_lit [.pointer none, .pointer (some ⟨g, 0, none⟩)] und_pHs info_pH rfl rfl (by simp [Value.oneCell']) (by decide) ?_
  intro w2 gl hbl hgl hx2
  have hx02 := hx1.trans' hx2
  have hb2 := hb.ext hx2
  refine go_LShaNil (k := ?_)
  refine CW_loop (fun e' w' => ∃ k : Nat, k ≤ 2 ∧ e' 0 = .slice A a.length cA ∧ e' 4 = .slice (some ⟨gl, 0, none⟩) 2 2 ∧ e' 5 = .int .i64 k ∧ Ext w2 w') (fun e' _ => 2 - (intOf (e' 5)).toNat) ?_ ?_
  · exact ⟨0, by omega, rfl, rfl, rfl, Ext.rfl' _⟩
  rintro e' w' ⟨k, hk, q0, q4, q5, hx⟩
  rw [upd_self q0, upd_self q4, upd_self q5]
  refine go_LShaNil (k := ?_)
  refine OW_lenS und_pHs rfl ?_
  refine go_LShaNil (k := ?_)
  refine CW_cond _ rfl (fun hh => ?_) (fun hh => ?_)
  · have hlt : k < 2 := by simp at hh; omega
    obtain ⟨P, hP, hN⟩ : ∃ P, (#[.pointer none, .pointer (some ⟨g, 0, none⟩)] : Array Value)[k]? = some (.pointer P) ∧ NoH w2 P := by
      match k, hlt with
      | 0, _ => exact ⟨none, rfl, .inl rfl⟩
      | 1, _ => exact ⟨_, rfl, .inr ⟨g, _, rfl, hb2, rfl⟩⟩
    refine go_LShaNil (k := ?_)
    refine OW_idxSB und_pHs s_hash rfl rfl k rfl hlt ?_
    refine OW_isLoad ?_
    refine OW_loadBk s_hash rfl (hbl.ext hx) (.pointer P) hP ?_
    refine go_LShaNil (k := ?_)
    refine OW_callV Try.func10 (by kernel_rfl) rfl (sumN_any w' P (hN.ext hx)) rfl ?_
    intro w3 hx3
    refine go_LShaNil (k := ?_)
    refine OW_allocA s_agg_Tag ?_
    intro w4 g6 hb6 hg6 hl6 hx4
    refine go_LShaNil (k := ?_)
    refine OW_storeA s_agg_Tag rfl (tzS.map bv) rfl rfl hb6 rfl (bv_one _) ?_
    intro w5 hb6' hgr
    have hx5 : Ext w2 w5 := below_only ((hx.trans' hx3).trans' hx4) hgr (by have := (hx.trans' hx3).size; omega) ((hx.trans' hx3).trans' hx4).size
    refine go_LShaNil (k := ?_)
    refine OW_idxSB und_pHs s_hash rfl rfl k rfl hlt ?_
    refine OW_isLoad ?_
    refine OW_loadBk s_hash rfl (hbl.ext hx5) (.pointer P) hP ?_
    refine go_LShaNil (k := ?_)
    refine OW_callV Try.func11 (by kernel_rfl) rfl (writeN_any w5 P (hN.ext hx5) A a.length cA) rfl ?_
    intro w6 hx6
    refine go_LShaNil (k := ?_)
    refine OW_loadAB s_agg_Tag rfl (tzS.map bv) (hb6'.ext hx6) rfl ?_
    refine go_LShaNil (k := ?_)
    refine OW_build _ _ bld_T0 rfl ?_
    refine go_LShaNil (k := ?_)
    refine OW_neqR s_eqr_Tag rfl rfl rfl rfl ?_
    rw [decide_eq_true rfl]
    refine go_LShaNil (k := ?_)
    refine OW_idxSB und_pHs s_hash rfl rfl k rfl hlt ?_
    refine go_LShaNil (k := ?_)
    refine OW_isLoad ?_
    refine OW_loadBk s_hash rfl (hbl.ext (hx5.trans' hx6)) (.pointer P) hP ?_
    refine go_LShaNil (k := ?_)
    refine OW_callV Try.func12 (by kernel_rfl) rfl (lenN_any w6 P (hN.ext (hx5.trans' hx6))) rfl ?_
    intro w7 hx7
    refine go_LShaNil (k := ?_)
    refine ⟨⟨k + 1, by omega, rfl, rfl, rfl, (hx5.trans' hx6).trans' hx7⟩, ?_⟩
    show 2 - ((k : Int) + 1).toNat < 2 - (k : Int).toNat
    omega
  · refine go_LShaNil (k := ?_)
    exact bodyE_ret1 rfl (.bool true) rfl ⟨rfl, hx02.trans' hx⟩
set_option maxRecDepth 100000 in
theorem lifted (os : Os) (started : os.Started) (H : Type) (enc : TypeId × Value → H) :
    ReturnsInHanded {} Try.checked os 3 .any (Rows.shaNilSpec.pre6 enc Try.prog Try.f3 Rows.shaNilRow.domain false) (Rows.shaNilSpec.post enc Try.prog Try.f3 false true false false) := by
  refine returnsInHanded_of_change (C := Try.checked) ownP started (by kernel_rfl) Try.func3
    (ChangeSpec.witness6 (enc := enc) (C := Try.checked) false ⟨#[], #[.slice none 0 0], []⟩ 8 (by kernel_rfl) (by kernel_rfl) (by kernel_rfl) (by kernel_rfl)) ?_
  intro W base args ds gs before hval0 hW hcnd _
  have hval : ∀ (j : Nat) t v, Try.f3.params[j]? = some t → args[j]? = some v → Value.okWide Try.prog W .any base t v := hval0
  have hW' := hW
  obtain ⟨p, q, hA0, hV, rfl, hfz, hnd⟩ := hW
  have hA : DataW.TrodAll enc Try.prog W 0 (fun _ => true) true Try.f3.params.toList args.toList ds p := hA0
  rw [Try.params3] at hA hval
  obtain ⟨v0, vs0, d0, ds0, p0, q0, hargs, rfl, rfl, h0, r0⟩ := trodAll_cons hA
  obtain ⟨rfl, rfl, rfl⟩ := trodAll_nil r0
  obtain rfl : args = #[v0] := by cases args; simp_all
  obtain ⟨rfl, rfl⟩ := trodVars_none hV
  have k0 := h0
  have lt0 : ∀ x ∈ p0, x.block < W.heap.size := by obtain ⟨m, hm⟩ := k0; exact DataW.trod_lt m _ _ _ hm
  obtain ⟨A0, c0, l0, rfl, b0, n0⟩ := open_bytes Try.underlying22 Try.underlying5 (by kernel_rfl) (hval 0 22 v0 rfl rfl) h0
  clear hA0 hval0
  refine (walk W A0 c0 l0 b0 n0).mono fun e W' ⟨he, bel⟩ => ?_
  subst he
  exact ⟨_, rfl, _, _, _, [], _, [], hW', trodAll_mk1 (shut_bool Try.underlying4 _), (trodAll_cons_mk (Below.trod laidP (by kernel_rfl) (of_decide_eq_true (by kernel_rfl)) k0 bel lt0) trodAll_mk0), rfl, bel.frame _, fun h => by cases h⟩
theorem over : Rows.shaNilRow.holds Try.pinned (OpenSpec.ofChange Rows.shaNilSpec) :=
  OpenClaim.holds_of_wide 3 Try.f3 rfl rfl rfl rfl rfl rfl rfl ⟨rfl, rfl, rfl, rfl, rfl⟩ rfl rfl rfl rfl rfl (by kernel_rfl) Try.func3 (by kernel_rfl)
    (of_decide_eq_true (by kernel_rfl)) (by unfold Func.isWrapper; first | (rw [if_pos (by decide +kernel)]; kernel_rfl) | (rw [if_neg (by decide +kernel)]; exact ⟨rfl, rfl⟩))
    (fun os started H enc _ => lifted os started H enc)
theorem proved : Rows.ShaNilSaid := over
#print axioms proved
end Go.Proofs.Ytikkfpgbbenheaa.lawShaNil
