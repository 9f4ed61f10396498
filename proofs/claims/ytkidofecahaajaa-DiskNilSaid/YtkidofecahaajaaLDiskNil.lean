/- DiskNil: a disk that nobody made is none. No condition. -/
import Derived.Test.YtkidofecahaajaaDskA
namespace Go.Proofs.Ytkidofecahaajaa.lawDiskNil
open Go.ChangeShapes Go.WideShapes Go.ChangeAt Go.RowKit
set_option linter.unusedVariables false
set_option maxRecDepth 4000
theorem go_LDiskNil {A B : Prop} (h : Held B → A := by
  intro hEnd
  repeat (first | refine OW_lenS und_Ds rfl ?_ | refine OW_idxS und_Ds d_ptr rfl rfl _ rfl (by omega) ?_ | refine OW_fieldB fldo_A0 rfl ?_ | refine OW_fieldB fldo_A1 rfl ?_ | refine OW_fieldB fldo_A2 rfl ?_ | refine OW_fieldB fldo_A3 rfl ?_ | refine OW_neqF rfl rfl rfl ?_ | refine OW_moveV (.int _ _) rfl ?_ | refine OW_moveV (.slice _ _ _) rfl ?_ | refine OW_moveV (.bool _) rfl ?_ | refine OW_moveV (.pointer _) rfl ?_ | refine OW_moveV (.string _) rfl ?_ | refine OW_moveV (.agg _) rfl ?_ | refine OW_moveV (.tuple _) rfl ?_ | refine OW_nil ?_ | refine thenE_normal ?_ | refine CW_seq ?_ | refine CW_region (by kernel_rfl) ?_ | refine OW_assignV (.int _ _) rfl ?_ | refine OW_assignV (.slice _ _ _) rfl ?_ | refine OW_assignV (.bool _) rfl ?_ | refine OW_assignV (.pointer _) rfl ?_ | refine OW_assignV (.string _) rfl ?_ | refine OW_assignV (.agg _) rfl ?_ | refine OW_assignV (.tuple _) rfl ?_ | refine OW_addI rfl rfl (by omega) ?_ | refine OW_subI rfl rfl (by omega) ?_ | refine OW_mulI rfl rfl (by omega) ?_ | refine OW_lss rfl rfl ?_ | refine OW_extract rfl rfl ?_ | refine OW_gtr rfl rfl ?_ | refine OW_leq rfl rfl ?_ | refine OW_geq rfl rfl ?_ | refine OW_eql rfl rfl ?_ | refine OW_neq rfl rfl ?_ | refine OW_not rfl ?_ | refine OW_pickT rfl _ rfl ?_ | refine OW_pickF rfl (.bool _) rfl ?_ | refine OW_pickB rfl rfl rfl ?_ | refine OW_move ?_ | refine OW_assign ?_ | refine OW_pass rfl ?_ | refine OW_take rfl ?_ | refine OW_lenS (by first | with_reducible exact und_bytes | with_reducible exact und_bytess) rfl ?_ | refine OW_convInt (by first | with_reducible exact und_u8 | with_reducible exact und_u64 | with_reducible exact und_int | with_reducible exact und_u32) (by first | with_reducible exact und_u8 | with_reducible exact und_u64 | with_reducible exact und_int | with_reducible exact und_u32) rfl ?_ | refine OW_add rfl rfl ?_ | refine OW_sub rfl rfl ?_ | refine OW_mul rfl rfl ?_ | refine OW_min2 rfl rfl ?_ | refine OW_max2 rfl rfl ?_ | refine OW_neg rfl ?_ | refine CW_block ?_ | refine CW_condT rfl ?_ | refine CW_condF rfl ?_ | refine CW_exit ?_ | refine CW_ret ?_ | refine CW_skip ?_ | refine LW_seq ?_ | refine LW_regC ?_ | refine LW_condC ?_ | refine LW_regF ?_ | refine LW_condF ?_ | refine FW_seq ?_ | refine FW_region (by kernel_rfl) ?_ | refine FW_block ?_ | refine FW_condT rfl ?_ | refine FW_condF rfl ?_ | refine FW_exit ?_ | refine FW_ret ?_ | refine FW_skip ?_ | refine LW_ret ?_ | refine LW_skip ?_ | refine thenE_exit ?_ | refine thenE_ret ?_ | refine inBlockE_normal ?_ | refine inBlockE_same ?_ | refine inBlockE_ret ?_ | refine inBlockE_ne (by rfl) ?_ | refine OW_eqlB (by with_reducible exact und_bool) rfl rfl ?_ | refine OW_neqB (by with_reducible exact und_bool) rfl rfl ?_ | refine OW_idxS (by with_reducible exact und_bytes) one_u8 rfl rfl _ rfl (by omega) ?_ | refine OW_idxS (by with_reducible exact und_bytess) one_bytes rfl rfl _ rfl (by omega) ?_ | refine OW_load1 (by first | with_reducible exact one_u8 | with_reducible exact one_bytes) rfl _ (by assumption) ?_ | refine OW_load1 s_int rfl _ (by assumption) ?_)
  exact hEnd.out) (k : B) : A := h ⟨k⟩
theorem und_Ds : Try.prog.underlying 31 = some (.slice 27) := Try.underlying31
theorem info_pD : (Try.prog.info? 27).map (fun i => (i.zero, i.size, i.bytes)) = some (some (.pointer none), 1, 8) := by kernel_rfl
theorem bld_D0 : ∀ w, (Instr.build 30 [].toArray).run Try.prog w = .ok (.agg #[.bool false, .bool false, .slice none 0 0, .slice none 0 0]) w := fun w => by kernel_rfl
section
variable {P : Program} {ops : Array Oper} {Q : Exit → (Nat → Value) → World → Prop} {rest : List Oper} {e : Nat → Value} {w : World} {d : Tmp} {ty : TypeId} {pos : String} {aft : Array Edge}
theorem OW_neqF {x y : Operand} {t t' : TypeId} {k : IntKind} {a b : Int} (hx : ev e x = .int k a) (hy : ev e y = .int k b) (hab : a = b) (h : OW P ops Q rest (upd e d (.bool false)) w) : OW P ops Q (⟨some d, .binOp .neq t x y t', ty, pos, aft, none⟩ :: rest) e w := by
  refine OW_neq hx hy ?_
  rw [show (a != b) = false by simp [hab]]
  exact h
end
set_option maxHeartbeats 8000000 in
theorem walk (w : World) (cs : List Value) (f : AD) (h0 : kAct.R w cs f) : Calls Try.prog 3 #[.agg cs.toArray] w (RetV w (.bool true)) := by
  obtain ⟨B, cB, rfl, hok⟩ := h0
  refine calls_of_CW Try.func3 rfl (by simp [Try.ntmps3]) ?_
  rw [Try.ntmps3]
  refine go_LDiskNil (k := ?_)
  refine OW_box _ rfl ?_
  intro w1 g1 hb1 hg1 hl1 hx1
  have hb1 : Blk w1 g1 24 (acells f (.slice B f.B.length cB)).toArray := hb1
  refine go_LDiskNil (k := ?_)
  refine OW_loadX agg_A rfl (acells f (.slice B f.B.length cB)) rfl (Blk.atL hb1) ?_
  refine OW_litM [acells f (.slice B f.B.length cB)] und_As agg_A rfl rfl (by simp [acells]) (by decide) ?_
  intro w2 g2 hb2 hg2 hl2 hx2
  have hx02 := hx1.trans' hx2
  have hAs : ACs w2 (some ⟨g2, 0, none⟩) [f] := fun i hi => by
    have hi0 : i = 0 := by simpa using hi
    subst hi0
    refine ⟨_, acells f (.slice B f.B.length cB), rfl, rfl, ?_, B, cB, rfl, hok.ext hx02⟩
    have := Blk.atL hb2
    simpa [Addr.add] using this
  refine go_LDiskNil (k := ?_)
  refine OW_callV Try.func13 (by kernel_rfl) rfl (great6_any w2 (some ⟨g2, 0, none⟩) 1 [f] hAs (by simp)) rfl ?_
  intro w3 hx3
  refine go_LDiskNil (k := ?_)
  refine CW_cond _ rfl (fun h => ?_) (fun h => ?_)
  · refine go_LDiskNil (k := ?_)
    exact bodyE_ret1 rfl (.bool true) rfl ⟨rfl, hx02.trans' hx3⟩
  have hx03 := hx02.trans' hx3
  refine go_LDiskNil (k := ?_)
  refine OW_build _ _ bld_D0 rfl ?_
  refine go_LDiskNil (k := ?_)
  refine OW_box _ rfl ?_
  intro w4 g4 hb4 hg4 hl4 hx4
  have hb4 : Blk w4 g4 30 #[.bool false, .bool false, .slice none 0 0, .slice none 0 0] := hb4
  refine go_LDiskNil (k := ?_)
  refine OW_lit [.pointer none, .pointer (some ⟨g4, 0, none⟩)] und_Ds info_pD rfl rfl (by simp [Value.oneCell']) (by decide) ?_
  intro w5 g5 hb5 hg5 hx5
  have hx35 := hx4.trans' hx5
  have hN : ∀ i, i < 2 → ∃ P, w5.cell? ⟨g5, i, none⟩ = some (.pointer P) ∧ NoD w5 P := fun i hi => by
    rcases (by omega : i = 0 ∨ i = 1) with rfl | rfl
    · exact ⟨none, hb5.cell 0, .inl rfl⟩
    · exact ⟨_, hb5.cell 1, .inr ⟨g4, _, rfl, hb4.ext hx5, rfl⟩⟩
  have hb15 := hb1.ext ((hx2.trans' hx3).trans' hx35)
  have hbs := hok.bs.ext (hx03.trans' hx35)
  have hx05 := hx03.trans' hx35
  clear hb1 hb2 hb4 hb5 hAs
  refine go_LDiskNil (k := ?_)
  refine CW_loop (fun e' w' => ∃ i : Nat, i ≤ 2 ∧ e' 1 = .pointer (some ⟨g1, 0, none⟩) ∧ e' 4 = .slice (some ⟨g5, 0, none⟩) 2 2 ∧ e' 5 = .int .i64 i ∧ Ext w5 w') (fun e' _ => 2 - (intOf (e' 5)).toNat) ?_ ?_
  · exact ⟨0, by omega, rfl, rfl, rfl, Ext.rfl' _⟩
  rintro e6 w6 ⟨i, hi, q1, q4, q5, hx6⟩
  rw [upd_self q1, upd_self q4, upd_self q5]
  refine go_LDiskNil (k := ?_)
  refine CW_cond _ rfl (fun h => ?_) (fun h => ?_)
  · have hlt : i < 2 := by have := of_decide_eq_true h; omega
    clear h
    obtain ⟨P, hP, hno⟩ := hN i hlt
    have hP6 : w6.cell? ((⟨g5, 0, none⟩ : Addr).add i) = some (.pointer P) := by rw [add0]; exact hx6.cell' hP
    have hno6 := hno.ext hx6
    have hb16 := hb15.ext hx6
    refine go_LDiskNil (k := ?_)
    refine OW_load1 d_ptr rfl _ hP6 ?_
    refine go_LDiskNil (k := ?_)
    refine OW_isLoad ?_
    refine OW_loadBk one_bytes rfl hb16 (.slice B f.B.length cB) rfl ?_
    refine go_LDiskNil (k := ?_)
    refine OW_callV Try.func14 (by kernel_rfl) rfl (dWriteN_any w6 P hno6 B f.B.length cB) rfl ?_
    intro w7 hx7
    refine go_LDiskNil (k := ?_)
    refine OW_callV Try.func15 (by kernel_rfl) rfl (dSyncN_any w7 P (hno6.ext hx7)) rfl ?_
    intro w8 hx8
    have hx68 := hx7.trans' hx8
    refine go_LDiskNil (k := ?_)
    refine OW_isLoad ?_
    refine OW_loadBk s_int rfl (hb16.ext hx68) (.int .i64 f.n) rfl ?_
    refine go_LDiskNil (k := ?_)
    refine OW_isLoad ?_
    refine OW_loadBk s_int rfl (hb16.ext hx68) (.int .i64 f.m) rfl ?_
    refine go_LDiskNil (k := ?_)
    refine OW_callV Try.func16 (by kernel_rfl) rfl (dCrashN_any w8 P (hno6.ext hx68) f.n f.m) rfl ?_
    intro w9 hx9
    have hx69 := hx68.trans' hx9
    refine go_LDiskNil (k := ?_)
    refine OW_callV Try.func17 (by kernel_rfl) rfl (dStartN_any w9 P (hno6.ext hx69)) rfl ?_
    intro w10 hx10
    have hx610 := hx69.trans' hx10
    refine go_LDiskNil (k := ?_)
    refine OW_isLoad ?_
    refine OW_loadBk s_int rfl (hb16.ext hx610) (.int .i64 f.n) rfl ?_
    refine go_LDiskNil (k := ?_)
    refine OW_callV Try.func18 (by kernel_rfl) rfl (dCutN_any w10 P (hno6.ext hx610) f.n) rfl ?_
    intro w11 hx11
    have hx611 := hx610.trans' hx11
    refine go_LDiskNil (k := ?_)
    refine OW_callV Try.func19 (by kernel_rfl) rfl (dBytesN_any w11 P (hno6.ext hx611)) rfl ?_
    intro w12 hx12
    have hx612 := hx611.trans' hx12
    refine go_LDiskNil (k := ?_)
    refine OW_callV Try.func20 (by kernel_rfl) rfl (dSyncedN_any w12 P (hno6.ext hx612)) rfl ?_
    intro w13 hx13
    have hx613 := hx612.trans' hx13
    refine go_LDiskNil (k := ?_)
    refine OW_callV Try.func21 (by kernel_rfl) rfl (dWritesN_any w13 P (hno6.ext hx613)) rfl ?_
    intro w14 hx14
    have hx614 := hx613.trans' hx14
    refine go_LDiskNil (k := ?_)
    refine OW_callV Try.func22 (by kernel_rfl) rfl (dUpN_any w14 P (hno6.ext hx614)) rfl ?_
    intro w15 hx15
    have hx615 := hx614.trans' hx15
    refine go_LDiskNil (k := ?_)
    refine ⟨⟨i + 1, hlt, rfl, rfl, rfl, hx6.trans' hx615⟩, ?_⟩
    show 2 - ((i : Int) + 1).toNat < 2 - (i : Int).toNat
    omega
  · refine go_LDiskNil (k := ?_)
    exact bodyE_ret1 rfl (.bool true) rfl ⟨rfl, hx05.trans' hx6⟩
set_option maxRecDepth 100000 in
theorem lifted (os : Os) (started : os.Started) (H : Type) (enc : TypeId × Value → H) :
    ReturnsInHanded {} Try.checked os 3 .any (Rows.diskNilSpec.pre6 enc Try.prog Try.f3 Rows.diskNilRow.domain false) (Rows.diskNilSpec.post enc Try.prog Try.f3 false true false false) := by
  refine returnsInHanded_of_change_sized (C := Try.checked) ownP started (by kernel_rfl) Try.func3
    (ChangeSpec.witness6 (enc := enc) (C := Try.checked) false ⟨#[], #[.agg (acells ⟨0, 0, 0, []⟩ (.slice none 0 0)).toArray], []⟩ 8 (by kernel_rfl) (by kernel_rfl) (by kernel_rfl) (by kernel_rfl)) ?_
  intro W base args ds gs before hval0 hW hcnd hwt0 _
  have hval : ∀ (j : Nat) t v, Try.f3.params[j]? = some t → args[j]? = some v → Value.okWide Try.prog W .any base t v := hval0
  have hW' := hW
  obtain ⟨p, q, hA0, hV, rfl, hfz, hnd⟩ := hW
  have hA : DataW.TrodAll enc Try.prog W 0 (fun _ => true) true Try.f3.params.toList args.toList ds p := hA0
  have hwt : (DataW.weightsEach Try.prog (Try.f3.params.toList ++ []) (ds ++ gs)).all (· ≤ reachBytes) = true := hwt0
  rw [Try.params3] at hA hval hwt
  obtain ⟨v0, vs0, d0, ds0, p0, q0, hargs, rfl, rfl, h0, r0⟩ := trodAll_cons hA
  obtain ⟨rfl, rfl, rfl⟩ := trodAll_nil r0
  obtain rfl : args = #[v0] := by cases args; simp_all
  obtain ⟨rfl, rfl⟩ := trodVars_none hV
  have k0 := h0
  have lt0 : ∀ x ∈ p0, x.block < W.heap.size := by obtain ⟨m, hm⟩ := k0; exact DataW.trod_lt m _ _ _ hm
  have wk0 : WOk Try.prog 24 d0 := wok_each hwt 0 rfl rfl
  obtain ⟨cs0, a0, rfl, b0⟩ := kd_struct kAct Try.underlying24 (hval 0 24 v0 rfl rfl) h0 wk0
  clear hA0 hval0 hwt0
  refine (walk W cs0 a0 b0).mono fun e W' ⟨he, bel⟩ => ?_
  subst he
  exact ⟨_, rfl, _, _, _, [], _, [], hW', trodAll_mk1 (shut_bool Try.underlying4 _), (trodAll_cons_mk (Below.trod laidP (by kernel_rfl) (of_decide_eq_true (by kernel_rfl)) k0 bel lt0) trodAll_mk0), rfl, bel.frame _, fun h => by cases h⟩
theorem over : Rows.diskNilRow.holds Try.pinned (OpenSpec.ofChange Rows.diskNilSpec) :=
  OpenClaim.holds_of_wide 3 Try.f3 rfl rfl rfl rfl rfl rfl rfl ⟨rfl, rfl, rfl, rfl, rfl⟩ rfl rfl rfl rfl rfl (by kernel_rfl) Try.func3 (by kernel_rfl)
    (of_decide_eq_true (by kernel_rfl)) (by unfold Func.isWrapper; first | (rw [if_pos (by decide +kernel)]; kernel_rfl) | (rw [if_neg (by decide +kernel)]; exact ⟨rfl, rfl⟩))
    (fun os started H enc _ => lifted os started H enc)
theorem proved : Rows.DiskNilSaid := over
#print axioms proved
end Go.Proofs.Ytkidofecahaajaa.lawDiskNil
