/- WalNil: a wal that nobody made, or of a disk that is none, is none. No condition. -/
import Derived.Test.YtkidofecahaajaaGw3
import Derived.Test.YtkidofecahaajaaGw17
import Derived.Test.YtkidofecahaajaaGw23
namespace Go.Proofs.Ytkidofecahaajaa.lawWalNil
open Go.ChangeShapes Go.WideShapes Go.ChangeAt Go.RowKit
set_option linter.unusedVariables false
set_option maxRecDepth 4000
theorem go_LWalNil {A B : Prop} (h : Held B → A := by
  intro hEnd
  repeat (first | refine OW_neqF rfl rfl rfl ?_ | refine OW_lenS und_Vs rfl ?_ | refine OW_idxS und_Vs v_ptr rfl rfl _ rfl (by omega) ?_ | refine OW_moveV (.int _ _) rfl ?_ | refine OW_moveV (.slice _ _ _) rfl ?_ | refine OW_moveV (.bool _) rfl ?_ | refine OW_moveV (.pointer _) rfl ?_ | refine OW_moveV (.string _) rfl ?_ | refine OW_moveV (.agg _) rfl ?_ | refine OW_moveV (.tuple _) rfl ?_ | refine OW_nil ?_ | refine thenE_normal ?_ | refine CW_seq ?_ | refine CW_region (by kernel_rfl) ?_ | refine OW_assignV (.int _ _) rfl ?_ | refine OW_assignV (.slice _ _ _) rfl ?_ | refine OW_assignV (.bool _) rfl ?_ | refine OW_assignV (.pointer _) rfl ?_ | refine OW_assignV (.string _) rfl ?_ | refine OW_assignV (.agg _) rfl ?_ | refine OW_assignV (.tuple _) rfl ?_ | refine OW_addI rfl rfl (by omega) ?_ | refine OW_subI rfl rfl (by omega) ?_ | refine OW_mulI rfl rfl (by omega) ?_ | refine OW_lss rfl rfl ?_ | refine OW_extract rfl rfl ?_ | refine OW_gtr rfl rfl ?_ | refine OW_leq rfl rfl ?_ | refine OW_geq rfl rfl ?_ | refine OW_eql rfl rfl ?_ | refine OW_neq rfl rfl ?_ | refine OW_not rfl ?_ | refine OW_pickT rfl _ rfl ?_ | refine OW_pickF rfl (.bool _) rfl ?_ | refine OW_pickB rfl rfl rfl ?_ | refine OW_move ?_ | refine OW_assign ?_ | refine OW_pass rfl ?_ | refine OW_take rfl ?_ | refine OW_lenS (by first | with_reducible exact und_bytes | with_reducible exact und_bytess) rfl ?_ | refine OW_convInt (by first | with_reducible exact und_u8 | with_reducible exact und_u64 | with_reducible exact und_int | with_reducible exact und_u32) (by first | with_reducible exact und_u8 | with_reducible exact und_u64 | with_reducible exact und_int | with_reducible exact und_u32) rfl ?_ | refine OW_add rfl rfl ?_ | refine OW_sub rfl rfl ?_ | refine OW_mul rfl rfl ?_ | refine OW_min2 rfl rfl ?_ | refine OW_max2 rfl rfl ?_ | refine OW_neg rfl ?_ | refine CW_block ?_ | refine CW_condT rfl ?_ | refine CW_condF rfl ?_ | refine CW_exit ?_ | refine CW_ret ?_ | refine CW_skip ?_ | refine LW_seq ?_ | refine LW_regC ?_ | refine LW_condC ?_ | refine LW_regF ?_ | refine LW_condF ?_ | refine FW_seq ?_ | refine FW_region (by kernel_rfl) ?_ | refine FW_block ?_ | refine FW_condT rfl ?_ | refine FW_condF rfl ?_ | refine FW_exit ?_ | refine FW_ret ?_ | refine FW_skip ?_ | refine LW_ret ?_ | refine LW_skip ?_ | refine thenE_exit ?_ | refine thenE_ret ?_ | refine inBlockE_normal ?_ | refine inBlockE_same ?_ | refine inBlockE_ret ?_ | refine inBlockE_ne (by rfl) ?_ | refine OW_eqlB (by with_reducible exact und_bool) rfl rfl ?_ | refine OW_neqB (by with_reducible exact und_bool) rfl rfl ?_ | refine OW_idxS (by with_reducible exact und_bytes) one_u8 rfl rfl _ rfl (by omega) ?_ | refine OW_idxS (by with_reducible exact und_bytess) one_bytes rfl rfl _ rfl (by omega) ?_ | refine OW_load1 (by first | with_reducible exact one_u8 | with_reducible exact one_bytes) rfl _ (by assumption) ?_)
  exact hEnd.out) (k : B) : A := h ⟨k⟩
theorem und_Vs : Try.prog.underlying 62 = some (.slice 53) := Try.underlying62
theorem info_pV : (Try.prog.info? 53).map (fun i => (i.zero, i.size, i.bytes)) = some (some (.pointer none), 1, 8) := by kernel_rfl
theorem bld_V0 : ∀ w, (Instr.build 61 [].toArray).run Try.prog w = .ok (.agg #[.pointer none]) w := fun w => by kernel_rfl
theorem bld_D0 : ∀ w, (Instr.build 30 [].toArray).run Try.prog w = .ok (.agg #[.bool false, .bool false, .slice none 0 0, .slice none 0 0]) w := fun w => by kernel_rfl
set_option maxHeartbeats 8000000 in
theorem walk (w : World) (v0 : Value) (b : List UInt8) (h0 : kBs.R w [v0] b) : Calls Try.prog 10 #[v0] w (RetV w (.bool true)) := by
  obtain ⟨B, d, hv0, ⟨hd, hd2⟩, hB⟩ := h0
  injection hv0 with hv0
  subst hv0
  refine calls_of_CW Try.func10 rfl (by simp [Try.ntmps10]) ?_
  rw [Try.ntmps10]
  refine go_LWalNil (k := ?_)
  refine CW_cond _ rfl (fun h => ?_) (fun h => ?_)
  · refine go_LWalNil (k := ?_)
    exact bodyE_ret1 rfl (.bool true) rfl ⟨rfl, Ext.rfl' w⟩
  clear h
  refine go_LWalNil (k := ?_)
  refine OW_build _ _ bld_V0 rfl ?_
  refine go_LWalNil (k := ?_)
  refine OW_box _ rfl ?_
  intro w1 g1 hb1 hg1 hl1 hx1
  have hb1 : Blk w1 g1 61 #[.pointer none] := hb1
  refine go_LWalNil (k := ?_)
  refine OW_callC Try.func32 (by kernel_rfl) rfl (walNew_any w1 none) rfl ?_
  rintro en w2 ⟨g2, rfl, hb2, hg2, hl2, hx2⟩
  refine ⟨_, rfl, ?_⟩
  refine go_LWalNil (k := ?_)
  refine OW_build _ _ bld_D0 rfl ?_
  refine go_LWalNil (k := ?_)
  refine OW_box _ rfl ?_
  intro w3 g3 hb3 hg3 hl3 hx3
  have hb3 : Blk w3 g3 30 #[.bool false, .bool false, .slice none 0 0, .slice none 0 0] := hb3
  refine go_LWalNil (k := ?_)
  refine OW_callC Try.func32 (by kernel_rfl) rfl (walNew_any w3 (some ⟨g3, 0, none⟩)) rfl ?_
  rintro en w4 ⟨g4, rfl, hb4, hg4, hl4, hx4⟩
  refine ⟨_, rfl, ?_⟩
  refine go_LWalNil (k := ?_)
  refine OW_lit [.pointer none, .pointer (some ⟨g1, 0, none⟩), .pointer (some ⟨g2, 0, none⟩), .pointer (some ⟨g4, 0, none⟩)] und_Vs info_pV rfl rfl (by simp [Value.oneCell']) (by decide) ?_
  intro w5 g5 hb5 hg5 hx5
  have hx35 := hx4.trans' hx5
  have hx25 := hx3.trans' hx35
  have hx15 := hx2.trans' hx25
  have hx05 := hx1.trans' hx15
  have hN : ∀ i, i < 4 → ∃ P, w5.cell? ⟨g5, i, none⟩ = some (.pointer P) ∧ NoV w5 P := fun i hi => by
    rcases (by omega : i = 0 ∨ i = 1 ∨ i = 2 ∨ i = 3) with rfl | rfl | rfl | rfl
    · exact ⟨none, hb5.cell 0, .inl rfl⟩
    · exact ⟨_, hb5.cell 1, .inr ⟨g1, none, rfl, hb1.ext hx15, .inl rfl⟩⟩
    · exact ⟨_, hb5.cell 2, .inr ⟨g2, none, rfl, hb2.ext hx25, .inl rfl⟩⟩
    · exact ⟨_, hb5.cell 3, .inr ⟨g4, _, rfl, hb4.ext hx5, .inr ⟨g3, _, rfl, hb3.ext hx35, rfl⟩⟩⟩
  clear hb1 hb2 hb3 hb4 hb5
  refine go_LWalNil (k := ?_)
  refine CW_loop (fun e' w' => ∃ i : Nat, i ≤ 4 ∧ e' 0 = .slice B b.length d ∧ e' 5 = .slice (some ⟨g5, 0, none⟩) 4 4 ∧ e' 6 = .int .i64 i ∧ Ext w5 w') (fun e' _ => 4 - (intOf (e' 6)).toNat) ?_ ?_
  · exact ⟨0, by omega, rfl, rfl, rfl, Ext.rfl' _⟩
  rintro e6 w6 ⟨i, hi, q0, q5, q6, hx6⟩
  rw [upd_self q0, upd_self q5, upd_self q6]
  refine go_LWalNil (k := ?_)
  refine CW_cond _ rfl (fun h => ?_) (fun h => ?_)
  · have hlt : i < 4 := by have := of_decide_eq_true h; omega
    clear h
    obtain ⟨P, hP, hno⟩ := hN i hlt
    have hP6 : w6.cell? ((⟨g5, 0, none⟩ : Addr).add i) = some (.pointer P) := by rw [add0]; exact hx6.cell' hP
    have hno6 := hno.ext hx6
    refine go_LWalNil (k := ?_)
    refine OW_load1 v_ptr rfl _ hP6 ?_
    refine go_LWalNil (k := ?_)
    refine OW_callV Try.func38 (by kernel_rfl) rfl (vRecoverN_any w6 P hno6) rfl ?_
    intro w7 hx7
    refine go_LWalNil (k := ?_)
    refine OW_callV Try.func33 (by kernel_rfl) rfl (vAddN_any w7 P (hno6.ext hx7) _) rfl ?_
    intro w8 hx8
    have hx68 := hx7.trans' hx8
    refine go_LWalNil (k := ?_)
    refine OW_callV Try.func36 (by kernel_rfl) rfl (vSyncN_any w8 P (hno6.ext hx68)) rfl ?_
    intro w9 hx9
    have hx69 := hx68.trans' hx9
    refine go_LWalNil (k := ?_)
    refine OW_callV Try.func34 (by kernel_rfl) rfl (vRecordsN_any w9 P (hno6.ext hx69)) rfl ?_
    intro w10 hx10
    have hx610 := hx69.trans' hx10
    refine go_LWalNil (k := ?_)
    refine OW_callV Try.func37 (by kernel_rfl) rfl (vLastingN_any w10 P (hno6.ext hx610)) rfl ?_
    intro w11 hx11
    refine go_LWalNil (k := ?_)
    refine ⟨⟨i + 1, by omega, rfl, rfl, rfl, hx6.trans' (hx610.trans' hx11)⟩, ?_⟩
    show 4 - ((i : Int) + 1).toNat < 4 - (i : Int).toNat
    omega
  · refine go_LWalNil (k := ?_)
    exact bodyE_ret1 rfl (.bool true) rfl ⟨rfl, hx05.trans' hx6⟩
set_option maxRecDepth 100000 in
theorem lifted (os : Os) (started : os.Started) (H : Type) (enc : TypeId × Value → H) :
    ReturnsInHanded {} Try.checked os 10 .any (Rows.walNilSpec.pre6 enc Try.prog Try.f10 Rows.walNilRow.domain false) (Rows.walNilSpec.post enc Try.prog Try.f10 false true false false) := by
  refine returnsInHanded_of_change_sized (C := Try.checked) ownP started (by kernel_rfl) Try.func10
    (ChangeSpec.witness6 (enc := enc) (C := Try.checked) false ⟨#[], #[.slice none 0 0], []⟩ 8 (by kernel_rfl) (by kernel_rfl) (by kernel_rfl) (by kernel_rfl)) ?_
  intro W base args ds gs before hval0 hW hcnd hwt0 _
  have hval : ∀ (j : Nat) t v, Try.f10.params[j]? = some t → args[j]? = some v → Value.okWide Try.prog W .any base t v := hval0
  have hW' := hW
  obtain ⟨p, q, hA0, hV, rfl, hfz, hnd⟩ := hW
  have hA : DataW.TrodAll enc Try.prog W 0 (fun _ => true) true Try.f10.params.toList args.toList ds p := hA0
  have hwt : (DataW.weightsEach Try.prog (Try.f10.params.toList ++ []) (ds ++ gs)).all (· ≤ reachBytes) = true := hwt0
  rw [Try.params10] at hA hval hwt
  obtain ⟨v0, vs0, d0, ds0, p0, q0, hargs, rfl, rfl, h0, r0⟩ := trodAll_cons hA
  obtain ⟨rfl, rfl, rfl⟩ := trodAll_nil r0
  obtain rfl : args = #[v0] := by cases args; simp_all
  obtain ⟨rfl, rfl⟩ := trodVars_none hV
  have k0 := h0
  have lt0 : ∀ x ∈ p0, x.block < W.heap.size := by obtain ⟨m, hm⟩ := k0; exact DataW.trod_lt m _ _ _ hm
  have wk0 : WOk Try.prog 22 d0 := wok_each hwt 0 rfl rfl
  obtain ⟨a0, b0⟩ := kd_slice kBs und_bytes (hval 0 22 v0 rfl rfl) h0 wk0
  clear hA0 hval0 hwt0
  refine (walk W v0 a0 b0).mono fun e W' ⟨he, bel⟩ => ?_
  subst he
  exact ⟨_, rfl, _, _, _, [], _, [], hW', trodAll_mk1 (shut_bool Try.underlying4 _), (trodAll_cons_mk (Below.trod laidP (by kernel_rfl) (of_decide_eq_true (by kernel_rfl)) k0 bel lt0) trodAll_mk0), rfl, bel.frame _, fun h => by cases h⟩
theorem over : Rows.walNilRow.holds Try.pinned (OpenSpec.ofChange Rows.walNilSpec) :=
  OpenClaim.holds_of_wide 10 Try.f10 rfl rfl rfl rfl rfl rfl rfl ⟨rfl, rfl, rfl, rfl, rfl⟩ rfl rfl rfl rfl rfl (by kernel_rfl) Try.func10 (by kernel_rfl)
    (of_decide_eq_true (by kernel_rfl)) (by unfold Func.isWrapper; first | (rw [if_pos (by decide +kernel)]; kernel_rfl) | (rw [if_neg (by decide +kernel)]; exact ⟨rfl, rfl⟩))
    (fun os started H enc _ => lifted os started H enc)
theorem proved : Rows.WalNilSaid := over
#print axioms proved
end Go.Proofs.Ytkidofecahaajaa.lawWalNil
