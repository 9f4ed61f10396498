/- WireBack: fields that were written are read as they were, and nothing is left; a beginning of them ends within a field, or leaves nothing. No condition. -/
import Derived.Test.YthhphmbhlddihaaWireY
import Derived.Test.YthhphmbhlddihaaWireP
import Derived.Test.YthhphmbhlddihaaFrame
namespace Go.Proofs.Ythhphmbhlddihaa.lawWireBack
open Go.ChangeShapes Go.WideShapes Go.ChangeAt Go.RowKit
set_option linter.unusedVariables false
set_option maxRecDepth 4000
theorem go_LWireBack {A B : Prop} (h : Held B → A := by
  intro hEnd
  repeat (first | refine OW_neqF rfl rfl rfl ?_ | refine OW_eqlTr rfl rfl rfl ?_ | refine OW_moveV (.int _ _) rfl ?_ | refine OW_moveV (.slice _ _ _) rfl ?_ | refine OW_moveV (.bool _) rfl ?_ | refine OW_moveV (.pointer _) rfl ?_ | refine OW_moveV (.string _) rfl ?_ | refine OW_moveV (.agg _) rfl ?_ | refine OW_moveV (.tuple _) rfl ?_ | refine OW_nil ?_ | refine thenE_normal ?_ | refine CW_seq ?_ | refine CW_region (by kernel_rfl) ?_ | refine OW_assignV (.int _ _) rfl ?_ | refine OW_assignV (.slice _ _ _) rfl ?_ | refine OW_assignV (.bool _) rfl ?_ | refine OW_assignV (.pointer _) rfl ?_ | refine OW_assignV (.string _) rfl ?_ | refine OW_assignV (.agg _) rfl ?_ | refine OW_assignV (.tuple _) rfl ?_ | refine OW_addI rfl rfl (by omega) ?_ | refine OW_subI rfl rfl (by omega) ?_ | refine OW_mulI rfl rfl (by omega) ?_ | refine OW_lss rfl rfl ?_ | refine OW_extract rfl rfl ?_ | refine OW_gtr rfl rfl ?_ | refine OW_leq rfl rfl ?_ | refine OW_geq rfl rfl ?_ | refine OW_eql rfl rfl ?_ | refine OW_neq rfl rfl ?_ | refine OW_not rfl ?_ | refine OW_pickT rfl _ rfl ?_ | refine OW_pickF rfl (.bool _) rfl ?_ | refine OW_pickB rfl rfl rfl ?_ | refine OW_move ?_ | refine OW_assign ?_ | refine OW_pass rfl ?_ | refine OW_take rfl ?_ | refine OW_lenS (by first | with_reducible exact und_bytes | with_reducible exact und_bytess) rfl ?_ | refine OW_convInt (by first | with_reducible exact und_u8 | with_reducible exact und_u64 | with_reducible exact und_int | with_reducible exact und_u32) (by first | with_reducible exact und_u8 | with_reducible exact und_u64 | with_reducible exact und_int | with_reducible exact und_u32) rfl ?_ | refine OW_add rfl rfl ?_ | refine OW_sub rfl rfl ?_ | refine OW_mul rfl rfl ?_ | refine OW_min2 rfl rfl ?_ | refine OW_max2 rfl rfl ?_ | refine OW_neg rfl ?_ | refine CW_block ?_ | refine CW_condT rfl ?_ | refine CW_condF rfl ?_ | refine CW_exit ?_ | refine CW_ret ?_ | refine CW_skip ?_ | refine LW_seq ?_ | refine LW_regC ?_ | refine LW_condC ?_ | refine LW_regF ?_ | refine LW_condF ?_ | refine FW_seq ?_ | refine FW_region (by kernel_rfl) ?_ | refine FW_block ?_ | refine FW_condT rfl ?_ | refine FW_condF rfl ?_ | refine FW_exit ?_ | refine FW_ret ?_ | refine FW_skip ?_ | refine LW_ret ?_ | refine LW_skip ?_ | refine thenE_exit ?_ | refine thenE_ret ?_ | refine inBlockE_normal ?_ | refine inBlockE_same ?_ | refine inBlockE_ret ?_ | refine inBlockE_ne (by rfl) ?_ | refine OW_eqlB (by with_reducible exact und_bool) rfl rfl ?_ | refine OW_neqB (by with_reducible exact und_bool) rfl rfl ?_ | refine OW_idxS (by with_reducible exact und_bytes) one_u8 rfl rfl _ rfl (by omega) ?_ | refine OW_idxS (by with_reducible exact und_bytess) one_bytes rfl rfl _ rfl (by omega) ?_ | refine OW_load1 (by first | with_reducible exact one_u8 | with_reducible exact one_bytes) rfl _ (by assumption) ?_ | refine OW_lenS (by with_reducible exact und_Fs) rfl ?_ | refine OW_idxN und_Fs el_F rfl rfl _ rfl (by omega) ?_)
  exact hEnd.out) (k : B) : A := h ⟨k⟩
set_option maxHeartbeats 8000000 in
theorem walk (w : World) (v0 : Value) (l : List FD) (h0 : kFields.R w [v0] l) (v1 : Value) (cut : Int) (h1 : kI.R w [v1] cut) : Calls Try.prog 5 #[v0, v1] w (RetV w (.bool true)) := by
  obtain ⟨A1, c1, hv, hc1, hc2, hl⟩ := h0
  have hl : FS w A1 l := hl
  obtain ⟨hv1, hi1⟩ := h1
  injection hv with hv
  injection hv1 with hv1
  subst hv; subst hv1
  refine calls_of_CW Try.func5 rfl (by simp [Try.ntmps5]) ?_
  rw [Try.ntmps5]
  refine go_LWireBack (k := ?_)
  refine OW_callV Try.func29 (by kernel_rfl) rfl (awake4_any w) rfl ?_
  intro w1 hx1
  refine go_LWireBack (k := ?_)
  refine OW_callV Try.func16 (by kernel_rfl) rfl (great_any w1 A1 c1 l (hl.ext hx1) (by omega)) rfl ?_
  intro w2 hx2
  refine go_LWireBack (k := ?_)
  refine CW_cond _ rfl (fun hh => ?_) (fun hh => ?_)
  · refine go_LWireBack (k := ?_)
    exact bodyE_ret1 rfl (.bool true) rfl ⟨rfl, hx1.trans' hx2⟩
  have hg : gsum l ≤ 4000 := by have := of_decide_eq_false hh; omega
  clear hh
  have hlen := gsum_len l
  have hx02 := hx1.trans' hx2
  refine go_LWireBack (k := ?_)
  refine OW_callC Try.func30 (by kernel_rfl) rfl (newWriter_ply w w2 hx02) rfl ?_
  rintro en w3 ⟨g, rfl, hx3, hR3⟩
  refine ⟨_, rfl, ?_⟩
  refine go_LWireBack (k := ?_)
  refine CW_meetB (fun e' w' => e' 0 = .slice A1 l.length c1 ∧ e' 1 = .int .i64 cut ∧ e' 5 = .pointer (some ⟨g, 0, none⟩) ∧ WPly w w' g (false, formL l)) ?_ ?_
  · refine go_LWireBack (k := ?_)
    refine CW_loop (fun e' w' => ∃ k : Nat, k ≤ l.length ∧ e' 0 = .slice A1 l.length c1 ∧ e' 1 = .int .i64 cut ∧ e' 5 = .pointer (some ⟨g, 0, none⟩) ∧ e' 6 = .int .i64 k ∧ WPly w w' g (false, formL (l.take k))) (fun e' _ => l.length - (intOf (e' 6)).toNat) ⟨0, Nat.zero_le _, rfl, rfl, rfl, rfl, hR3⟩ ?_
    rintro e' w4 ⟨k, hk, e0, e1, e5, e6, hW4⟩
    rw [upd_self e0, upd_self e1, upd_self e5, upd_self e6]
    refine go_LWireBack (k := ?_)
    refine CW_cond _ rfl (fun hh => ?_) (fun hh => ?_)
    · have hlt : k < l.length := by have := of_decide_eq_true hh; omega
      clear hh
      obtain ⟨ad, A', c', hA, hat, hok⟩ := hl.get hlt
      subst hA
      have hfl2 := formL_len hl.tags (k + 1)
      have hgl2 := gsum_take_le l (k + 1)
      have hml := gsum_mem hlt
      have hsucc := formL_take_succ hlt
      have hfk : (formL (l.take k)).length + (pieces l[k]).flatten.length ≤ 65536 := by
        rw [hsucc, List.length_append] at hfl2
        have : (pieces l[k]).flatten = pieceL l[k] := rfl
        rw [this]; omega
      have hadd := addAll_ok (pieces l[k]) (formL (l.take k)) hfk
      rw [show (pieces l[k]).flatten = pieceL l[k] from rfl, ← hsucc] at hadd
      generalize l[k] = f at *
      have hx4 := hW4.to
      refine go_LWireBack (k := ?_)
      refine OW_loadX agg_F rfl (fcells f (.slice A' f.B.length c')) (fcells_length hok.tag) (hat.ext hx4) ?_
      refine go_LWireBack (k := ?_)
      obtain ⟨S, hW, hS, _⟩ := hW4
      have hA' : ∀ ad, A' = some ad → f.B ≠ [] → ¬ S ad.block := fun ad ha hn hs => by have h1 := hS _ hs; have h2 := Rd.lt hok.bs (by simpa using hn) ad ha; omega
      refine OW_callC Try.func17 (by kernel_rfl) rfl (write_any w4 g S _ hW f A' c' (hok.ext hx4) hA' (by omega)) rfl ?_
      rintro en w8 ⟨rfl, hw8, hk8⟩
      refine ⟨_, rfl, ?_⟩
      rw [hadd] at hw8
      have hx8 := hk8.ext hx4 hS
      refine go_LWireBack (k := ?_)
      refine ⟨⟨k + 1, by omega, rfl, rfl, rfl, rfl, _, hw8, fun j hj => by rcases hj with h | h; exact hS j h; have := hx4.size; omega, hx8⟩, ?_⟩
      show l.length - ((k : Int) + 1).toNat < l.length - (k : Int).toNat
      omega
    · have hge : k = l.length := by have := of_decide_eq_false hh; omega
      subst hge
      rw [List.take_of_length_le (Nat.le_refl _)] at hW4
      refine go_LWireBack (k := ?_)
      exact ⟨rfl, rfl, rfl, rfl, hW4⟩
  rintro e5 w5 ⟨q0, q1, q5, hW5⟩
  rw [upd_self q0, upd_self q1, upd_self q5]
  have hfl := formL_len hl.tags l.length
  rw [List.take_of_length_le (Nat.le_refl _)] at hfl
  have hx5 := hW5.to
  have hfor : ∀ (i : Nat) (hi : i < l.length), (l[i]).T.length = 32 ∧ (l[i]).B.length ≤ 65536 ∧ I64 (l[i]).n := fun i hi => by
    obtain ⟨_, _, _, _, _, hok⟩ := hl.get hi
    have := gsum_mem hi
    exact ⟨hok.tag, by omega, hok.n⟩
  obtain ⟨b, hb⟩ : ∃ b, b = formL l := ⟨_, rfl⟩
  rw [← hb] at hW5 hfl
  refine go_LWireBack (k := ?_)
  refine OW_callC Try.func18 (by kernel_rfl) rfl (done_ply hW5) rfl ?_
  rintro en w6 ⟨A6, c6, rfl, hf6⟩
  refine ⟨_, rfl, ?_⟩
  have hb6 := hf6.bs
  have hc6 := hf6.cap
  have hx6 := hx5.trans' hf6.ext
  clear hf6 hW5 hR3
  refine go_LWireBack (k := ?_)
  refine OW_callC Try.func32 (by kernel_rfl) rfl (newReader_ply w6 w6 (Ext.rfl' _) A6 b c6 hb6 (by omega)) rfl ?_
  rintro en w7 ⟨r, rfl, hx7, hP7⟩
  refine ⟨_, rfl, ?_⟩
  refine go_LWireBack (k := ?_)
  refine CW_meetB (fun e' w' => e' 0 = .slice A1 l.length c1 ∧ e' 1 = .int .i64 cut ∧ e' 7 = .slice A6 b.length c6 ∧ e' 9 = .pointer (some ⟨r, 0, none⟩) ∧ RPly w6 w' r ([], 0)) ?_ ?_
  · refine go_LWireBack (k := ?_)
    refine CW_loop (fun e' w' => ∃ k : Nat, k ≤ l.length ∧ e' 0 = .slice A1 l.length c1 ∧ e' 1 = .int .i64 cut ∧ e' 7 = .slice A6 b.length c6 ∧ e' 9 = .pointer (some ⟨r, 0, none⟩) ∧ e' 10 = .int .i64 k ∧ RPly w6 w' r (formL (l.drop k), 0)) (fun e' _ => l.length - (intOf (e' 10)).toNat) ⟨0, Nat.zero_le _, rfl, rfl, rfl, rfl, rfl, by rw [List.drop_zero, ← hb]; exact hP7⟩ ?_
    rintro e' w8 ⟨k, hk, e0, e1, e7, e9, e10, hP8⟩
    rw [upd_self e0, upd_self e1, upd_self e7, upd_self e9, upd_self e10]
    refine go_LWireBack (k := ?_)
    refine CW_cond _ rfl (fun hh => ?_) (fun hh => ?_)
    · have hlt : k < l.length := by have := of_decide_eq_true hh; omega
      clear hh
      obtain ⟨ad, A', c', hA, hat, hok⟩ := hl.get hlt
      subst hA
      obtain ⟨f1, f2, f3⟩ := hfor k hlt
      have hdr : formL (l.drop k) = pieceL l[k] ++ formL (l.drop (k + 1)) := by unfold formL; rw [List.drop_eq_getElem_cons hlt]; simp only [List.map_cons, List.flatten_cons]
      rw [hdr] at hP8
      have hrb := read_back (f := l[k]) (r := formL (l.drop (k + 1))) f1 f2 f3
      generalize l[k] = f at *
      have hx8 := hx6.trans' hP8.to
      refine go_LWireBack (k := ?_)
      refine OW_loadX agg_F rfl (fcells f (.slice A' f.B.length c')) (fcells_length hok.tag) (hat.ext hx8) ?_
      refine go_LWireBack (k := ?_)
      refine OW_callC Try.func34 (by kernel_rfl) rfl (hP8.back f A' c' (hok.ext hx6)) rfl ?_
      rintro en w9 ⟨rfl, hP9⟩
      refine ⟨_, rfl, ?_⟩
      rw [hrb.1]
      rw [hrb.2] at hP9
      refine go_LWireBack (k := ?_)
      refine ⟨⟨k + 1, by omega, rfl, rfl, rfl, rfl, rfl, hP9⟩, ?_⟩
      show l.length - ((k : Int) + 1).toNat < l.length - (k : Int).toNat
      omega
    · have hge : k = l.length := by have := of_decide_eq_false hh; omega
      subst hge
      rw [List.drop_of_length_le (Nat.le_refl _)] at hP8
      refine go_LWireBack (k := ?_)
      exact ⟨rfl, rfl, rfl, rfl, rfl, hP8⟩
  rintro e9 w9 ⟨q0, q1, q7, q9, hP9⟩
  rw [upd_self q0, upd_self q1, upd_self q7, upd_self q9]
  refine go_LWireBack (k := ?_)
  refine OW_callV Try.func28 (by kernel_rfl) rfl (hP9.use fun S hS => rEnd_any w9 r S _ hS) rfl ?_
  intro w10 hx10
  rw [show endE ([], 0) = 0 by decide]
  have hP10 := hP9.ext hx10
  refine go_LWireBack (k := ?_)
  refine OW_callV Try.func26 (by kernel_rfl) rfl (hP10.use fun S hS => rLeft_any w10 r S _ hS) rfl ?_
  intro w11 hx11
  have hx611 := (hP10.ext hx11).to
  have hx11' := hx6.trans' hx611
  clear hP9 hP10 hP7
  refine go_LWireBack (k := ?_)
  refine OW_split 62 _ rfl (fun h => ?_) (fun h => ?_)
  · refine go_LWireBack (k := ?_)
    exact bodyE_ret1 rfl (.bool true) rfl ⟨rfl, hx11'⟩
  have hcut1 := of_decide_eq_false h
  clear h
  refine go_LWireBack (k := ?_)
  refine CW_cond _ rfl (fun h => ?_) (fun h => ?_)
  · refine go_LWireBack (k := ?_)
    exact bodyE_ret1 rfl (.bool true) rfl ⟨rfl, hx11'⟩
  have hcut2 := of_decide_eq_false h
  clear h
  obtain ⟨m, hm⟩ : ∃ m : Nat, (b.length : Int) - cut = m := ⟨((b.length : Int) - cut).toNat, by omega⟩
  have hml : m < b.length := by omega
  refine go_LWireBack (k := ?_)
  rw [hm]
  refine OW_sliceBs und_bytes one_u8 (hb6.ext hx611) rfl hc6 rfl rfl ⟨_, rfl⟩ 0 m rfl rfl (by omega) ?_
  intro A12 hb12 hl12
  rw [List.drop_zero, show m - 0 = m from rfl] at hb12 hl12
  rw [show m - 0 = m from rfl]
  have hNR := newReader_ply w11 w11 (Ext.rfl' _) A12 (b.take m) (c6 - 0) hb12 (by omega)
  rw [hl12] at hNR
  refine go_LWireBack (k := ?_)
  refine OW_callC Try.func32 (by kernel_rfl) rfl hNR rfl ?_
  rintro en w12 ⟨s, rfl, hx12, hP12⟩
  refine ⟨_, rfl, ?_⟩
  have hcs : CutSt l (b.take m, 0) := .inr ⟨m, by rw [← hb]; exact hml, by rw [← hb]⟩
  refine go_LWireBack (k := ?_)
  refine CW_loop (fun e' w' => ∃ (k : Nat) (st : List UInt8 × Int), k ≤ l.length ∧ e' 0 = .slice A1 l.length c1 ∧ e' 7 = .slice A6 b.length c6 ∧ e' 11 = .pointer (some ⟨s, 0, none⟩) ∧ e' 12 = .int .i64 k ∧ RPly w11 w' s st ∧ CutSt (l.drop k) st) (fun e' _ => l.length - (intOf (e' 12)).toNat) ⟨0, _, Nat.zero_le _, rfl, rfl, rfl, rfl, hP12, hcs⟩ ?_
  rintro e' w13 ⟨k, st, hk, e0, e7, e11, e12, hP13, hst⟩
  rw [upd_self e0, upd_self e7, upd_self e11, upd_self e12]
  refine go_LWireBack (k := ?_)
  refine CW_cond _ rfl (fun hh => ?_) (fun hh => ?_)
  · have hlt : k < l.length := by have := of_decide_eq_true hh; omega
    clear hh
    obtain ⟨ad, A', c', hA, hat, hok⟩ := hl.get hlt
    subst hA
    obtain ⟨f1, f2, f3⟩ := hfor k hlt
    rw [List.drop_eq_getElem_cons hlt] at hst
    have hst2 := hst.next f1 f2 f3
    generalize l[k] = f at *
    have hx13 := hx11'.trans' hP13.to
    refine go_LWireBack (k := ?_)
    refine OW_loadX agg_F rfl (fcells f (.slice A' f.B.length c')) (fcells_length hok.tag) (hat.ext hx13) ?_
    refine go_LWireBack (k := ?_)
    refine OW_callC Try.func34 (by kernel_rfl) rfl (hP13.back f A' c' (hok.ext hx11')) rfl ?_
    rintro en w14 ⟨rfl, hP14⟩
    refine ⟨_, rfl, ?_⟩
    refine go_LWireBack (k := ?_)
    refine ⟨⟨k + 1, _, by omega, rfl, rfl, rfl, rfl, hP14, hst2⟩, ?_⟩
    show l.length - ((k : Int) + 1).toNat < l.length - (k : Int).toNat
    omega
  · have hge : k = l.length := by have := of_decide_eq_false hh; omega
    subst hge
    rw [List.drop_of_length_le (Nat.le_refl _)] at hst
    obtain rfl : st = ([], 40) := by
      rcases hst with h | ⟨m, hm, _⟩
      · exact h
      · simp [formL] at hm
    refine go_LWireBack (k := ?_)
    refine OW_callV Try.func27 (by kernel_rfl) rfl (hP13.use fun S hS => rErr_any w13 s S _ hS) rfl ?_
    intro w14 hx14
    refine go_LWireBack (k := ?_)
    exact bodyE_ret1 rfl (.bool true) rfl ⟨rfl, (hx11'.trans' hP13.to).trans' hx14⟩
set_option maxRecDepth 100000 in
theorem lifted (os : Os) (started : os.Started) (H : Type) (enc : TypeId × Value → H) :
    ReturnsInHanded {} Try.checked os 5 .any (Rows.wireBackSpec.pre6 enc Try.prog Try.f5 Rows.wireBackRow.domain false) (Rows.wireBackSpec.post enc Try.prog Try.f5 false true false false) := by
  refine returnsInHanded_of_change_sized (C := Try.checked) ownP started (by kernel_rfl) Try.func5
    (ChangeSpec.witness6 (enc := enc) (C := Try.checked) false ⟨#[], #[.slice none 0 0, .int .i64 0], []⟩ 8 (by kernel_rfl) (by kernel_rfl) (by kernel_rfl) (by kernel_rfl)) ?_
  intro W base args ds gs before hval0 hW hcnd hwt0 _
  have hval : ∀ (j : Nat) t v, Try.f5.params[j]? = some t → args[j]? = some v → Value.okWide Try.prog W .any base t v := hval0
  have hW' := hW
  obtain ⟨p, q, hA0, hV, rfl, hfz, hnd⟩ := hW
  have hA : DataW.TrodAll enc Try.prog W 0 (fun _ => true) true Try.f5.params.toList args.toList ds p := hA0
  have hwt : (DataW.weightsEach Try.prog (Try.f5.params.toList ++ []) (ds ++ gs)).all (· ≤ reachBytes) = true := hwt0
  rw [Try.params5] at hA hval hwt
  obtain ⟨v0, vs0, d0, ds0, p0, q0, hargs, rfl, rfl, h0, r0⟩ := trodAll_cons hA
  obtain ⟨v1, vs1, d1, ds1, p1, q1, rfl, rfl, rfl, h1, r1⟩ := trodAll_cons r0
  obtain ⟨rfl, rfl, rfl⟩ := trodAll_nil r1
  obtain rfl : args = #[v0, v1] := by cases args; simp_all
  obtain ⟨rfl, rfl⟩ := trodVars_none hV
  have k0 := h0
  have lt0 : ∀ x ∈ p0, x.block < W.heap.size := by obtain ⟨m, hm⟩ := k0; exact DataW.trod_lt m _ _ _ hm
  have wk0 : WOk Try.prog 28 d0 := wok_each hwt 0 rfl rfl
  obtain ⟨a0, b0⟩ := kd_slice kFields und_Fs (hval 0 28 v0 rfl rfl) h0 wk0
  have k1 := h1
  have lt1 : ∀ x ∈ p1, x.block < W.heap.size := by obtain ⟨m, hm⟩ := k1; exact DataW.trod_lt m _ _ _ hm
  have wk1 : WOk Try.prog 3 d1 := wok_each hwt 1 rfl rfl
  obtain ⟨a1, b1⟩ := kd_int kI und_int (hval 1 3 v1 rfl rfl) h1 wk1
  clear hA0 hval0 hwt0
  refine (walk W v0 a0 b0 v1 a1 b1).mono fun e W' ⟨he, bel⟩ => ?_
  subst he
  exact ⟨_, rfl, _, _, _, [], _, [], hW', trodAll_mk1 (shut_bool Try.underlying4 _), (trodAll_cons_mk (Below.trod laidP (by kernel_rfl) (of_decide_eq_true (by kernel_rfl)) k0 bel lt0) (trodAll_cons_mk (Below.trod laidP (by kernel_rfl) (of_decide_eq_true (by kernel_rfl)) k1 bel lt1) trodAll_mk0)), rfl, bel.frame _, fun h => by cases h⟩
theorem over : Rows.wireBackRow.holds Try.pinned (OpenSpec.ofChange Rows.wireBackSpec) :=
  OpenClaim.holds_of_wide 5 Try.f5 rfl rfl rfl rfl rfl rfl rfl ⟨rfl, rfl, rfl, rfl, rfl⟩ rfl rfl rfl rfl rfl (by kernel_rfl) Try.func5 (by kernel_rfl)
    (of_decide_eq_true (by kernel_rfl)) (by unfold Func.isWrapper; first | (rw [if_pos (by decide +kernel)]; kernel_rfl) | (rw [if_neg (by decide +kernel)]; exact ⟨rfl, rfl⟩))
    (fun os started H enc _ => lifted os started H enc)
theorem proved : Rows.WireBackSaid := over
#print axioms proved
end Go.Proofs.Ythhphmbhlddihaa.lawWireBack
