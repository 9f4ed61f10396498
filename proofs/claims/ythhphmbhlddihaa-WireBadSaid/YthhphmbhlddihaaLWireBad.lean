/- WireBad: a reader that is bad stays so, and tells zero values alone. No condition. -/
import Derived.Test.YthhphmbhlddihaaWireY
import Derived.Test.YthhphmbhlddihaaWireP
import Derived.Test.YthhphmbhlddihaaFrame
namespace Go.Proofs.Ythhphmbhlddihaa.lawWireBad
open Go.ChangeShapes Go.WideShapes Go.ChangeAt Go.RowKit
set_option linter.unusedVariables false
set_option maxRecDepth 4000
theorem go_LWireBad {A B : Prop} (h : Held B → A := by
  intro hEnd
  repeat (first | refine OW_neqF rfl rfl rfl ?_ | refine OW_eqlTr rfl rfl rfl ?_ | refine OW_eqlST rfl rfl rfl ?_ | refine OW_moveV (.int _ _) rfl ?_ | refine OW_moveV (.slice _ _ _) rfl ?_ | refine OW_moveV (.bool _) rfl ?_ | refine OW_moveV (.pointer _) rfl ?_ | refine OW_moveV (.string _) rfl ?_ | refine OW_moveV (.agg _) rfl ?_ | refine OW_moveV (.tuple _) rfl ?_ | refine OW_nil ?_ | refine thenE_normal ?_ | refine CW_seq ?_ | refine CW_region (by kernel_rfl) ?_ | refine OW_assignV (.int _ _) rfl ?_ | refine OW_assignV (.slice _ _ _) rfl ?_ | refine OW_assignV (.bool _) rfl ?_ | refine OW_assignV (.pointer _) rfl ?_ | refine OW_assignV (.string _) rfl ?_ | refine OW_assignV (.agg _) rfl ?_ | refine OW_assignV (.tuple _) rfl ?_ | refine OW_addI rfl rfl (by omega) ?_ | refine OW_subI rfl rfl (by omega) ?_ | refine OW_mulI rfl rfl (by omega) ?_ | refine OW_lss rfl rfl ?_ | refine OW_extract rfl rfl ?_ | refine OW_gtr rfl rfl ?_ | refine OW_leq rfl rfl ?_ | refine OW_geq rfl rfl ?_ | refine OW_eql rfl rfl ?_ | refine OW_neq rfl rfl ?_ | refine OW_not rfl ?_ | refine OW_pickT rfl _ rfl ?_ | refine OW_pickF rfl (.bool _) rfl ?_ | refine OW_pickB rfl rfl rfl ?_ | refine OW_move ?_ | refine OW_assign ?_ | refine OW_pass rfl ?_ | refine OW_take rfl ?_ | refine OW_lenS (by first | with_reducible exact und_bytes | with_reducible exact und_bytess) rfl ?_ | refine OW_convInt (by first | with_reducible exact und_u8 | with_reducible exact und_u64 | with_reducible exact und_int | with_reducible exact und_u32) (by first | with_reducible exact und_u8 | with_reducible exact und_u64 | with_reducible exact und_int | with_reducible exact und_u32) rfl ?_ | refine OW_add rfl rfl ?_ | refine OW_sub rfl rfl ?_ | refine OW_mul rfl rfl ?_ | refine OW_min2 rfl rfl ?_ | refine OW_max2 rfl rfl ?_ | refine OW_neg rfl ?_ | refine CW_block ?_ | refine CW_condT rfl ?_ | refine CW_condF rfl ?_ | refine CW_exit ?_ | refine CW_ret ?_ | refine CW_skip ?_ | refine LW_seq ?_ | refine LW_regC ?_ | refine LW_condC ?_ | refine LW_regF ?_ | refine LW_condF ?_ | refine FW_seq ?_ | refine FW_region (by kernel_rfl) ?_ | refine FW_block ?_ | refine FW_condT rfl ?_ | refine FW_condF rfl ?_ | refine FW_exit ?_ | refine FW_ret ?_ | refine FW_skip ?_ | refine LW_ret ?_ | refine LW_skip ?_ | refine thenE_exit ?_ | refine thenE_ret ?_ | refine inBlockE_normal ?_ | refine inBlockE_same ?_ | refine inBlockE_ret ?_ | refine inBlockE_ne (by rfl) ?_ | refine OW_eqlB (by with_reducible exact und_bool) rfl rfl ?_ | refine OW_neqB (by with_reducible exact und_bool) rfl rfl ?_ | refine OW_idxS (by with_reducible exact und_bytes) one_u8 rfl rfl _ rfl (by omega) ?_ | refine OW_idxS (by with_reducible exact und_bytess) one_bytes rfl rfl _ rfl (by omega) ?_ | refine OW_load1 (by first | with_reducible exact one_u8 | with_reducible exact one_bytes) rfl _ (by assumption) ?_ | refine OW_eqlTz rfl rfl ?_ | refine OW_build _ _ bld_T0 rfl ?_ | refine OW_lenS (by with_reducible exact und_Fs) rfl ?_ | refine OW_idxN und_Fs el_F rfl rfl _ rfl (by omega) ?_)
  exact hEnd.out) (k : B) : A := h ⟨k⟩
theorem bld_T0 : ∀ w, (Instr.build 24 [].toArray).run Try.prog w = .ok (.agg (tz.map bv).toArray) w := fun w => by kernel_rfl
section
variable {ops : Array Oper} {Q : Exit → (Nat → Value) → World → Prop} {rest : List Oper} {e : Nat → Value} {w : World} {d : Tmp} {ty : TypeId} {pos : String} {aft : Array Edge}
theorem OW_eqlTz {x y : Operand} {t' : TypeId} (hx : ev e x = .agg (tz.map bv).toArray) (hy : ev e y = .agg (tz.map bv).toArray) (h : OW Try.prog ops Q rest (upd e d (.bool true)) w) : OW Try.prog ops Q (⟨some d, .binOp .eql 24 x y t', ty, pos, aft, none⟩ :: rest) e w := by
  refine OW_eqlR eqr_Tag hx hy rfl rfl ?_
  rw [decide_eq_true rfl]
  exact h
end
/-- A reader that is good, or bad. -/
def GB (n : Nat) (s : List UInt8 × Int) : Prop := (s.2 = 0 ∧ s.1.length ≤ n) ∨ s = ([], 40)
theorem GB.step {n : Nat} {s : List UInt8 × Int} (h : GB n s) (k : Int) (ok : Bool) : GB n (stepS s k ok) := by
  rcases h with ⟨h1, h2⟩ | rfl
  · unfold stepS
    rw [if_neg (by simpa using h1)]
    split
    · exact .inr rfl
    · split
      · exact .inl ⟨rfl, by simp; omega⟩
      · exact .inr rfl
  · exact .inr (stW_bad (by simp))
theorem GB.rd {n : Nat} {s : List UInt8 × Int} (h : GB n s) (f : FD) : GB n (rdS s f) := by
  unfold rdS
  repeat' split
  all_goals first | exact h.step _ _ | exact (h.step _ _).step _ _ | exact h
set_option maxHeartbeats 8000000 in
theorem walk (w : World) (v0 : Value) (b : List UInt8) (h0 : kBs.R w [v0] b) (v1 : Value) (l : List FD) (h1 : kFields.R w [v1] l) (v2 : Value) (n : Int) (h2 : kI.R w [v2] n) : Calls Try.prog 7 #[v0, v1, v2] w (RetV w (.bool true)) := by
  obtain ⟨A, c, hv0, ⟨hcb, hcb2⟩, hb⟩ := h0
  obtain ⟨A1, c1, hv, hc1, hc2, hl⟩ := h1
  have hl : FS w A1 l := hl
  obtain ⟨hv2, hi2⟩ := h2
  injection hv0 with hv0
  injection hv with hv
  injection hv2 with hv2
  subst hv; subst hv0; subst hv2
  refine calls_of_CW Try.func7 rfl (by simp [Try.ntmps7]) ?_
  rw [Try.ntmps7]
  refine go_LWireBad (k := ?_)
  refine OW_callV Try.func29 (by kernel_rfl) rfl (awake4_any w) rfl ?_
  intro w1 hx1
  refine go_LWireBad (k := ?_)
  refine OW_split 15 _ rfl (fun h => ?_) (fun h => ?_)
  · refine go_LWireBad (k := ?_)
    exact bodyE_ret1 rfl (.bool true) rfl ⟨rfl, hx1⟩
  have hlb := of_decide_eq_false h
  clear h
  refine go_LWireBad (k := ?_)
  refine CW_cond _ rfl (fun h => ?_) (fun h => ?_)
  · refine go_LWireBad (k := ?_)
    exact bodyE_ret1 rfl (.bool true) rfl ⟨rfl, hx1⟩
  have hll := of_decide_eq_false h
  clear h
  refine go_LWireBad (k := ?_)
  refine OW_callC Try.func32 (by kernel_rfl) rfl (newReader_ply w w1 hx1 A b c (hb.ext hx1) (by omega)) rfl ?_
  rintro en w2 ⟨r, rfl, hx2, hP2⟩
  refine ⟨_, rfl, ?_⟩
  have hgb : GB b.length (b, 0) := .inl ⟨rfl, Nat.le_refl _⟩
  refine go_LWireBad (k := ?_)
  refine CW_meetB (fun e' w' => e' 0 = .slice A b.length c ∧ e' 2 = .int .i64 n ∧ e' 7 = .pointer (some ⟨r, 0, none⟩) ∧ ∃ st, RPly w w' r st ∧ GB b.length st) ?_ ?_
  · refine go_LWireBad (k := ?_)
    refine CW_loop (fun e' w' => ∃ (k : Nat) (st : List UInt8 × Int), k ≤ l.length ∧ e' 0 = .slice A b.length c ∧ e' 1 = .slice A1 l.length c1 ∧ e' 2 = .int .i64 n ∧ e' 7 = .pointer (some ⟨r, 0, none⟩) ∧ e' 8 = .int .i64 k ∧ RPly w w' r st ∧ GB b.length st) (fun e' _ => l.length - (intOf (e' 8)).toNat) ⟨0, _, Nat.zero_le _, rfl, rfl, rfl, rfl, rfl, hP2, hgb⟩ ?_
    rintro e' w3 ⟨k, st, hk, e0, e1, e2, e7, e8, hP3, hst⟩
    rw [upd_self e0, upd_self e1, upd_self e2, upd_self e7, upd_self e8]
    refine go_LWireBad (k := ?_)
    refine CW_cond _ rfl (fun hh => ?_) (fun hh => ?_)
    · have hlt : k < l.length := by have := of_decide_eq_true hh; omega
      clear hh
      obtain ⟨ad, A', c', hA, hat, hok⟩ := hl.get hlt
      subst hA
      have hsm := hok.small
      generalize l[k] = f at *
      have hx3 := hP3.to
      refine go_LWireBad (k := ?_)
      refine OW_loadX agg_F rfl (fcells f (.slice A' f.B.length c')) (fcells_length hok.tag) (hat.ext hx3) ?_
      refine go_LWireBad (k := ?_)
      refine OW_callC Try.func34 (by kernel_rfl) rfl (hP3.back f A' c' hok) rfl ?_
      rintro en w4 ⟨rfl, hP4⟩
      refine ⟨_, rfl, ?_⟩
      refine go_LWireBad (k := ?_)
      refine ⟨⟨k + 1, _, by omega, rfl, rfl, rfl, rfl, rfl, hP4, hst.rd f⟩, ?_⟩
      show l.length - ((k : Int) + 1).toNat < l.length - (k : Int).toNat
      omega
    · refine go_LWireBad (k := ?_)
      exact ⟨rfl, rfl, rfl, rfl, st, hP3, hst⟩
  rintro e5 w5 ⟨q0, q2, q7, st, hP5, hst⟩
  rw [upd_self q0, upd_self q2, upd_self q7]
  refine go_LWireBad (k := ?_)
  refine OW_callV Try.func27 (by kernel_rfl) rfl (hP5.use fun S hS => rErr_any w5 r S _ hS) rfl ?_
  intro w6 hx6
  have hP6 := hP5.ext hx6
  rcases hst with ⟨hs0, hsl⟩ | hst
  · obtain ⟨s1, s2⟩ := st
    simp only at hs0 hsl
    subst hs0
    refine go_LWireBad (k := ?_)
    refine OW_callV Try.func26 (by kernel_rfl) rfl (hP6.use fun S hS => rLeft_any w6 r S _ hS) rfl ?_
    intro w7 hx7
    refine go_LWireBad (k := ?_)
    refine bodyE_ret1 rfl (.bool true) ?_ ⟨rfl, hP6.to.trans' hx7⟩
    show Value.bool _ = _
    rw [decide_eq_true (by simp only; omega)]
  · subst hst
    refine go_LWireBad (k := ?_)
    refine OW_callV Try.func26 (by kernel_rfl) rfl (hP6.use fun S hS => rLeft_any w6 r S _ hS) rfl ?_
    intro w7 hx7
    have hP7 := hP6.ext hx7
    refine go_LWireBad (k := ?_)
    refine OW_callC Try.func19 (by kernel_rfl) rfl (hP7.call fun S hS => rpost_to (v' := bv 0) (s' := ([], 40)) (rByte_any w7 r S _ hS) (congrArg _ (by decide)) (by decide)) rfl ?_
    rintro en w8 ⟨rfl, hP8⟩
    refine ⟨_, rfl, ?_⟩
    refine go_LWireBad (k := ?_)
    refine OW_callC Try.func20 (by kernel_rfl) rfl (hP8.call fun S hS => rpost_to (v' := .int .i64 0) (s' := ([], 40)) (rInt_any w8 r S _ hS) (congrArg _ (by decide)) (by decide)) rfl ?_
    rintro en w9 ⟨rfl, hP9⟩
    refine ⟨_, rfl, ?_⟩
    refine go_LWireBad (k := ?_)
    refine OW_callC Try.func21 (by kernel_rfl) rfl (hP9.call fun S hS => rpost_to (v' := .bool false) (s' := ([], 40)) (rFlag_any w9 r S _ hS) (congrArg _ (by decide)) (by decide)) rfl ?_
    rintro en w10 ⟨rfl, hP10⟩
    refine ⟨_, rfl, ?_⟩
    refine go_LWireBad (k := ?_)
    refine OW_callC Try.func22 (by kernel_rfl) rfl (hP10.callB (l := []) (s' := ([], 40)) fun S hS => by have := rBytes_any w10 r S _ hS; rwa [show bytesV ([], 40) = [] by decide, show bytesS ([], 40) = ([], 40) by decide] at this) rfl ?_
    rintro en w11 ⟨A11, c11, rfl, _, hP11⟩
    refine ⟨_, rfl, ?_⟩
    refine go_LWireBad (k := ?_)
    refine OW_callC Try.func23 (by kernel_rfl) rfl (hP11.call fun S hS => rpost_to (v' := .string ⟨#[]⟩) (s' := ([], 40)) (rText_any w11 r S _ hS) (by rw [show bytesV ([], 40) = [] by decide]) (by decide)) rfl ?_
    rintro en w12 ⟨rfl, hP12⟩
    refine ⟨_, rfl, ?_⟩
    refine go_LWireBad (k := ?_)
    refine OW_callC Try.func24 (by kernel_rfl) rfl (hP12.call fun S hS => rpost_to (v' := .agg (tz.map bv).toArray) (s' := ([], 40)) (rTag_any w12 r S _ hS) (by rw [show tagV ([], 40) = tz by decide]) (by decide)) rfl ?_
    rintro en w13 ⟨rfl, hP13⟩
    refine ⟨_, rfl, ?_⟩
    refine go_LWireBad (k := ?_)
    refine OW_callC Try.func25 (by kernel_rfl) rfl (hP13.call fun S hS => rpost_to (v' := .int .i64 0) (s' := ([], 40)) (rCount_any w13 r S _ hS n) (by unfold countV; rw [fitsW_bad (by simp)]; rfl) (stW_bad (by simp))) rfl ?_
    rintro en w14 ⟨rfl, hP14⟩
    refine ⟨_, rfl, ?_⟩
    refine go_LWireBad (k := ?_)
    refine OW_callV Try.func27 (by kernel_rfl) rfl (hP14.use fun S hS => rErr_any w14 r S _ hS) rfl ?_
    intro w15 hx15
    have hP15 := hP14.ext hx15
    refine go_LWireBad (k := ?_)
    refine OW_callV Try.func28 (by kernel_rfl) rfl (hP15.use fun S hS => rEnd_any w15 r S _ hS) rfl ?_
    intro w16 hx16
    rw [show endE ([], 40) = 40 by decide]
    refine go_LWireBad (k := ?_)
    exact bodyE_ret1 rfl (.bool true) rfl ⟨rfl, hP15.to.trans' hx16⟩
set_option maxRecDepth 100000 in
theorem lifted (os : Os) (started : os.Started) (H : Type) (enc : TypeId × Value → H) :
    ReturnsInHanded {} Try.checked os 7 .any (Rows.wireBadSpec.pre6 enc Try.prog Try.f7 Rows.wireBadRow.domain false) (Rows.wireBadSpec.post enc Try.prog Try.f7 false true false false) := by
  refine returnsInHanded_of_change_sized (C := Try.checked) ownP started (by kernel_rfl) Try.func7
    (ChangeSpec.witness6 (enc := enc) (C := Try.checked) false ⟨#[], #[.slice none 0 0, .slice none 0 0, .int .i64 0], []⟩ 8 (by kernel_rfl) (by kernel_rfl) (by kernel_rfl) (by kernel_rfl)) ?_
  intro W base args ds gs before hval0 hW hcnd hwt0 _
  have hval : ∀ (j : Nat) t v, Try.f7.params[j]? = some t → args[j]? = some v → Value.okWide Try.prog W .any base t v := hval0
  have hW' := hW
  obtain ⟨p, q, hA0, hV, rfl, hfz, hnd⟩ := hW
  have hA : DataW.TrodAll enc Try.prog W 0 (fun _ => true) true Try.f7.params.toList args.toList ds p := hA0
  have hwt : (DataW.weightsEach Try.prog (Try.f7.params.toList ++ []) (ds ++ gs)).all (· ≤ reachBytes) = true := hwt0
  rw [Try.params7] at hA hval hwt
  obtain ⟨v0, vs0, d0, ds0, p0, q0, hargs, rfl, rfl, h0, r0⟩ := trodAll_cons hA
  obtain ⟨v1, vs1, d1, ds1, p1, q1, rfl, rfl, rfl, h1, r1⟩ := trodAll_cons r0
  obtain ⟨v2, vs2, d2, ds2, p2, q2, rfl, rfl, rfl, h2, r2⟩ := trodAll_cons r1
  obtain ⟨rfl, rfl, rfl⟩ := trodAll_nil r2
  obtain rfl : args = #[v0, v1, v2] := by cases args; simp_all
  obtain ⟨rfl, rfl⟩ := trodVars_none hV
  have k0 := h0
  have lt0 : ∀ x ∈ p0, x.block < W.heap.size := by obtain ⟨m, hm⟩ := k0; exact DataW.trod_lt m _ _ _ hm
  have wk0 : WOk Try.prog 22 d0 := wok_each hwt 0 rfl rfl
  obtain ⟨a0, b0⟩ := kd_slice kBs und_bytes (hval 0 22 v0 rfl rfl) h0 wk0
  have k1 := h1
  have lt1 : ∀ x ∈ p1, x.block < W.heap.size := by obtain ⟨m, hm⟩ := k1; exact DataW.trod_lt m _ _ _ hm
  have wk1 : WOk Try.prog 28 d1 := wok_each hwt 1 rfl rfl
  obtain ⟨a1, b1⟩ := kd_slice kFields und_Fs (hval 1 28 v1 rfl rfl) h1 wk1
  have k2 := h2
  have lt2 : ∀ x ∈ p2, x.block < W.heap.size := by obtain ⟨m, hm⟩ := k2; exact DataW.trod_lt m _ _ _ hm
  have wk2 : WOk Try.prog 3 d2 := wok_each hwt 2 rfl rfl
  obtain ⟨a2, b2⟩ := kd_int kI und_int (hval 2 3 v2 rfl rfl) h2 wk2
  clear hA0 hval0 hwt0
  refine (walk W v0 a0 b0 v1 a1 b1 v2 a2 b2).mono fun e W' ⟨he, bel⟩ => ?_
  subst he
  exact ⟨_, rfl, _, _, _, [], _, [], hW', trodAll_mk1 (shut_bool Try.underlying4 _), (trodAll_cons_mk (Below.trod laidP (by kernel_rfl) (of_decide_eq_true (by kernel_rfl)) k0 bel lt0) (trodAll_cons_mk (Below.trod laidP (by kernel_rfl) (of_decide_eq_true (by kernel_rfl)) k1 bel lt1) (trodAll_cons_mk (Below.trod laidP (by kernel_rfl) (of_decide_eq_true (by kernel_rfl)) k2 bel lt2) trodAll_mk0))), rfl, bel.frame _, fun h => by cases h⟩
theorem over : Rows.wireBadRow.holds Try.pinned (OpenSpec.ofChange Rows.wireBadSpec) :=
  OpenClaim.holds_of_wide 7 Try.f7 rfl rfl rfl rfl rfl rfl rfl ⟨rfl, rfl, rfl, rfl, rfl⟩ rfl rfl rfl rfl rfl (by kernel_rfl) Try.func7 (by kernel_rfl)
    (of_decide_eq_true (by kernel_rfl)) (by unfold Func.isWrapper; first | (rw [if_pos (by decide +kernel)]; kernel_rfl) | (rw [if_neg (by decide +kernel)]; exact ⟨rfl, rfl⟩))
    (fun os started H enc _ => lifted os started H enc)
theorem proved : Rows.WireBadSaid := over
#print axioms proved
end Go.Proofs.Ythhphmbhlddihaa.lawWireBad
