/- WireRead: any bytes, read by any fields, tell what the chapter says: each field, how many bytes are left, why the reader is bad; the bytes stay. No condition. -/
import Derived.Test.YtnaflojlmgnkgaaWireL
import Derived.Test.YtnaflojlmgnkgaaWords5
namespace Go.Proofs.Ytnaflojlmgnkgaa.lawWireRead
open Go.ChangeShapes Go.WideShapes Go.ChangeAt Go.RowKit
set_option linter.unusedVariables false
set_option maxRecDepth 4000
theorem go_LWireRead {A B : Prop} (h : Held B → A := by
  intro hEnd
  repeat (first | refine OW_moveV (.int _ _) rfl ?_ | refine OW_moveV (.slice _ _ _) rfl ?_ | refine OW_moveV (.bool _) rfl ?_ | refine OW_moveV (.pointer _) rfl ?_ | refine OW_moveV (.string _) rfl ?_ | refine OW_moveV (.agg _) rfl ?_ | refine OW_moveV (.tuple _) rfl ?_ | refine OW_nil ?_ | refine thenE_normal ?_ | refine CW_seq ?_ | refine CW_region (by kernel_rfl) ?_ | refine OW_assignV (.int _ _) rfl ?_ | refine OW_assignV (.slice _ _ _) rfl ?_ | refine OW_assignV (.bool _) rfl ?_ | refine OW_assignV (.pointer _) rfl ?_ | refine OW_assignV (.string _) rfl ?_ | refine OW_assignV (.agg _) rfl ?_ | refine OW_assignV (.tuple _) rfl ?_ | refine OW_addI rfl rfl (by omega) ?_ | refine OW_subI rfl rfl (by omega) ?_ | refine OW_mulI rfl rfl (by omega) ?_ | refine OW_lss rfl rfl ?_ | refine OW_extract rfl rfl ?_ | refine OW_gtr rfl rfl ?_ | refine OW_leq rfl rfl ?_ | refine OW_geq rfl rfl ?_ | refine OW_eql rfl rfl ?_ | refine OW_neq rfl rfl ?_ | refine OW_not rfl ?_ | refine OW_pickT rfl _ rfl ?_ | refine OW_pickF rfl (.bool _) rfl ?_ | refine OW_pickB rfl rfl rfl ?_ | refine OW_move ?_ | refine OW_assign ?_ | refine OW_pass rfl ?_ | refine OW_take rfl ?_ | refine OW_lenS (by first | with_reducible exact und_bytes | with_reducible exact und_bytess) rfl ?_ | refine OW_convInt (by first | with_reducible exact und_u8 | with_reducible exact und_u64 | with_reducible exact und_int | with_reducible exact und_u32) (by first | with_reducible exact und_u8 | with_reducible exact und_u64 | with_reducible exact und_int | with_reducible exact und_u32) rfl ?_ | refine OW_add rfl rfl ?_ | refine OW_sub rfl rfl ?_ | refine OW_mul rfl rfl ?_ | refine OW_min2 rfl rfl ?_ | refine OW_max2 rfl rfl ?_ | refine OW_neg rfl ?_ | refine CW_block ?_ | refine CW_condT rfl ?_ | refine CW_condF rfl ?_ | refine CW_exit ?_ | refine CW_ret ?_ | refine CW_skip ?_ | refine thenE_exit ?_ | refine thenE_ret ?_ | refine inBlockE_normal ?_ | refine inBlockE_same ?_ | refine inBlockE_ret ?_ | refine inBlockE_ne (by rfl) ?_ | refine OW_eqlB (by with_reducible exact und_bool) rfl rfl ?_ | refine OW_neqB (by with_reducible exact und_bool) rfl rfl ?_ | refine OW_idxS (by with_reducible exact und_bytes) one_u8 rfl rfl _ rfl (by omega) ?_ | refine OW_idxS (by with_reducible exact und_bytess) one_bytes rfl rfl _ rfl (by omega) ?_ | refine OW_load1 (by first | with_reducible exact one_u8 | with_reducible exact one_bytes) rfl _ (by assumption) ?_ | refine OW_lenS (by with_reducible exact und_Fs) rfl ?_ | refine OW_idxN und_Fs el_F rfl rfl _ rfl (by omega) ?_ | refine OW_nilCheck rfl ?_ | refine OW_fieldF fld_V2 rfl ?_)
  exact hEnd.out) (k : B) : A := h ⟨k⟩
theorem ox_LWireRead {A B : Prop} (h : Held B → A := by
  intro hEnd
  repeat (first
    | refine OX_done ?_
    | refine OX_a (act_of rfl ?_)
    | refine OX_a (act_pass rfl rfl ?_)
    | refine OX_a (act_take rfl rfl ?_)
    | (apply OX_q _ rfl
       · intro wd hwd
         (first | refine OW_moveV (.int _ _) rfl ?_ | refine OW_moveV (.slice _ _ _) rfl ?_ | refine OW_moveV (.bool _) rfl ?_ | refine OW_moveV (.pointer _) rfl ?_ | refine OW_moveV (.string _) rfl ?_ | refine OW_moveV (.agg _) rfl ?_ | refine OW_moveV (.tuple _) rfl ?_ | refine OW_nil ?_ | refine thenE_normal ?_ | refine CW_seq ?_ | refine CW_region (by kernel_rfl) ?_ | refine OW_assignV (.int _ _) rfl ?_ | refine OW_assignV (.slice _ _ _) rfl ?_ | refine OW_assignV (.bool _) rfl ?_ | refine OW_assignV (.pointer _) rfl ?_ | refine OW_assignV (.string _) rfl ?_ | refine OW_assignV (.agg _) rfl ?_ | refine OW_assignV (.tuple _) rfl ?_ | refine OW_addI rfl rfl (by omega) ?_ | refine OW_subI rfl rfl (by omega) ?_ | refine OW_mulI rfl rfl (by omega) ?_ | refine OW_lss rfl rfl ?_ | refine OW_extract rfl rfl ?_ | refine OW_gtr rfl rfl ?_ | refine OW_leq rfl rfl ?_ | refine OW_geq rfl rfl ?_ | refine OW_eql rfl rfl ?_ | refine OW_neq rfl rfl ?_ | refine OW_not rfl ?_ | refine OW_pickT rfl _ rfl ?_ | refine OW_pickF rfl (.bool _) rfl ?_ | refine OW_pickB rfl rfl rfl ?_ | refine OW_move ?_ | refine OW_assign ?_ | refine OW_pass rfl ?_ | refine OW_take rfl ?_ | refine OW_lenS (by first | with_reducible exact und_bytes | with_reducible exact und_bytess) rfl ?_ | refine OW_convInt (by first | with_reducible exact und_u8 | with_reducible exact und_u64 | with_reducible exact und_int | with_reducible exact und_u32) (by first | with_reducible exact und_u8 | with_reducible exact und_u64 | with_reducible exact und_int | with_reducible exact und_u32) rfl ?_ | refine OW_add rfl rfl ?_ | refine OW_sub rfl rfl ?_ | refine OW_mul rfl rfl ?_ | refine OW_min2 rfl rfl ?_ | refine OW_max2 rfl rfl ?_ | refine OW_neg rfl ?_ | refine CW_block ?_ | refine CW_condT rfl ?_ | refine CW_condF rfl ?_ | refine CW_exit ?_ | refine CW_ret ?_ | refine CW_skip ?_ | refine thenE_exit ?_ | refine thenE_ret ?_ | refine inBlockE_normal ?_ | refine inBlockE_same ?_ | refine inBlockE_ret ?_ | refine inBlockE_ne (by rfl) ?_ | refine OW_eqlB (by with_reducible exact und_bool) rfl rfl ?_ | refine OW_neqB (by with_reducible exact und_bool) rfl rfl ?_ | refine OW_idxS (by with_reducible exact und_bytes) one_u8 rfl rfl _ rfl (by omega) ?_ | refine OW_idxS (by with_reducible exact und_bytess) one_bytes rfl rfl _ rfl (by omega) ?_ | refine OW_load1 (by first | with_reducible exact one_u8 | with_reducible exact one_bytes) rfl _ (by assumption) ?_ | refine OW_lenS (by with_reducible exact und_Fs) rfl ?_ | refine OW_idxN und_Fs el_F rfl rfl _ rfl (by omega) ?_ | refine OW_nilCheck rfl ?_ | refine OW_fieldF fld_V2 rfl ?_ | refine OW_load1 (by first | with_reducible exact one_u8 | with_reducible exact one_bytes | with_reducible exact one_bool | with_reducible exact one_int | with_reducible exact one_errno | with_reducible exact one_u32 | with_reducible exact one_u64 | with_reducible exact one_string) rfl _ (by apply_assumption; assumption) ?_)
         refine OW_nil ?_
         exact stay_mk _ _ _ _)
    | refine OX_qpass rfl rfl ?_
    | (apply OX_qtake _ rfl rfl
       · intro wd hwd
         (first | refine OW_moveV (.int _ _) rfl ?_ | refine OW_moveV (.slice _ _ _) rfl ?_ | refine OW_moveV (.bool _) rfl ?_ | refine OW_moveV (.pointer _) rfl ?_ | refine OW_moveV (.string _) rfl ?_ | refine OW_moveV (.agg _) rfl ?_ | refine OW_moveV (.tuple _) rfl ?_ | refine OW_nil ?_ | refine thenE_normal ?_ | refine CW_seq ?_ | refine CW_region (by kernel_rfl) ?_ | refine OW_assignV (.int _ _) rfl ?_ | refine OW_assignV (.slice _ _ _) rfl ?_ | refine OW_assignV (.bool _) rfl ?_ | refine OW_assignV (.pointer _) rfl ?_ | refine OW_assignV (.string _) rfl ?_ | refine OW_assignV (.agg _) rfl ?_ | refine OW_assignV (.tuple _) rfl ?_ | refine OW_addI rfl rfl (by omega) ?_ | refine OW_subI rfl rfl (by omega) ?_ | refine OW_mulI rfl rfl (by omega) ?_ | refine OW_lss rfl rfl ?_ | refine OW_extract rfl rfl ?_ | refine OW_gtr rfl rfl ?_ | refine OW_leq rfl rfl ?_ | refine OW_geq rfl rfl ?_ | refine OW_eql rfl rfl ?_ | refine OW_neq rfl rfl ?_ | refine OW_not rfl ?_ | refine OW_pickT rfl _ rfl ?_ | refine OW_pickF rfl (.bool _) rfl ?_ | refine OW_pickB rfl rfl rfl ?_ | refine OW_move ?_ | refine OW_assign ?_ | refine OW_pass rfl ?_ | refine OW_take rfl ?_ | refine OW_lenS (by first | with_reducible exact und_bytes | with_reducible exact und_bytess) rfl ?_ | refine OW_convInt (by first | with_reducible exact und_u8 | with_reducible exact und_u64 | with_reducible exact und_int | with_reducible exact und_u32) (by first | with_reducible exact und_u8 | with_reducible exact und_u64 | with_reducible exact und_int | with_reducible exact und_u32) rfl ?_ | refine OW_add rfl rfl ?_ | refine OW_sub rfl rfl ?_ | refine OW_mul rfl rfl ?_ | refine OW_min2 rfl rfl ?_ | refine OW_max2 rfl rfl ?_ | refine OW_neg rfl ?_ | refine CW_block ?_ | refine CW_condT rfl ?_ | refine CW_condF rfl ?_ | refine CW_exit ?_ | refine CW_ret ?_ | refine CW_skip ?_ | refine thenE_exit ?_ | refine thenE_ret ?_ | refine inBlockE_normal ?_ | refine inBlockE_same ?_ | refine inBlockE_ret ?_ | refine inBlockE_ne (by rfl) ?_ | refine OW_eqlB (by with_reducible exact und_bool) rfl rfl ?_ | refine OW_neqB (by with_reducible exact und_bool) rfl rfl ?_ | refine OW_idxS (by with_reducible exact und_bytes) one_u8 rfl rfl _ rfl (by omega) ?_ | refine OW_idxS (by with_reducible exact und_bytess) one_bytes rfl rfl _ rfl (by omega) ?_ | refine OW_load1 (by first | with_reducible exact one_u8 | with_reducible exact one_bytes) rfl _ (by assumption) ?_ | refine OW_lenS (by with_reducible exact und_Fs) rfl ?_ | refine OW_idxN und_Fs el_F rfl rfl _ rfl (by omega) ?_ | refine OW_nilCheck rfl ?_ | refine OW_fieldF fld_V2 rfl ?_ | refine OW_load1 (by first | with_reducible exact one_u8 | with_reducible exact one_bytes | with_reducible exact one_bool | with_reducible exact one_int | with_reducible exact one_errno | with_reducible exact one_u32 | with_reducible exact one_u64 | with_reducible exact one_string) rfl _ (by apply_assumption; assumption) ?_)
         refine OW_nil ?_
         exact stay_mk _ _ _ _))
  exact hEnd.out) (k : B) : A := h ⟨k⟩
theorem bne_self (n : Int) : (n != n) = false := by simp
set_option maxHeartbeats 8000000 in
theorem walk (w : World) (v0 : Value) (b : List UInt8) (h0 : kBs.R w [v0] b) (v1 : Value) (l : List FD) (h1 : kFields.R w [v1] l) : Calls Try.prog 5 #[v0, v1] w (RetV w (.bool true)) := by
  obtain ⟨A, c, hv0, hc, hb⟩ := h0
  obtain ⟨A1, c1, hv1, hc1, hc2, hl⟩ := h1
  have hl : FS w A1 l := hl
  injection hv0 with hv0
  injection hv1 with hv1
  subst hv0; subst hv1
  refine calls_of_CW Try.func5 rfl (by simp [Try.ntmps5]) ?_
  rw [Try.ntmps5]
  refine go_LWireRead (k := ?_)
  refine OW_split 12 _ rfl (fun h => ?_) (fun h => ?_)
  · refine go_LWireRead (k := ?_)
    exact bodyE_ret1 rfl (.bool true) rfl ⟨rfl, Ext.rfl' w⟩
  have hlb : b.length ≤ 5000 := by have h2 := of_decide_eq_false h; omega
  clear h
  refine go_LWireRead (k := ?_)
  refine CW_cond _ rfl (fun h => ?_) (fun h => ?_)
  · refine go_LWireRead (k := ?_)
    exact bodyE_ret1 rfl (.bool true) rfl ⟨rfl, Ext.rfl' w⟩
  have hll : l.length ≤ 60 := by have h2 := of_decide_eq_false h; omega
  clear h
  refine go_LWireRead (k := ?_)
  refine OW_callBs Try.func13 (by kernel_rfl) rfl (refCopy_any _ A b c hb (by omega)) rfl ?_
  intro w1 A5 c5 hf1
  refine go_LWireRead (k := ?_)
  refine OW_callC Try.func19 (by kernel_rfl) rfl (newReader_any _ A5 b c5 hf1.bs (by omega)) rfl ?_
  rintro en w2 ⟨g1, rfl, hg1, hx2, hr2⟩
  refine ⟨_, rfl, ?_⟩
  rw [if_neg (show ¬ 65536 < b.length by omega)] at hr2
  have hx02 := hf1.ext.trans' hx2
  refine go_LWireRead (k := ?_)
  refine OW_callC Try.func24 (by kernel_rfl) rfl (vNew_any _ A b c (hb.ext hx02) hc.1 (by omega)) rfl ?_
  rintro en w3 ⟨g2, rfl, hg2, hx3, hv3⟩
  refine ⟨_, rfl, ?_⟩
  rw [if_neg (show ¬ 65536 < b.length by omega)] at hv3
  have hx03 := hx02.trans' hx3
  have hB3 : Both w3 g1 (more (fun _ => False) w1 w2) g2 (fun k => k = g2 ∨ ∃ ad, A = some ad ∧ b ≠ [] ∧ ad.block = k) (b, 0) := by
    refine ⟨hr2.ext hx3, hv3, fun k hk hk2 => ?_⟩
    rcases hk with hk | hk
    · exact hk
    rcases hk2 with hk2 | ⟨ad, ha, hne, hk2⟩
    · omega
    · have h3 := Rd.lt hb (by simpa using hne) ad ha
      have h4 := hf1.ext.size
      omega
  generalize more (fun _ => False) w1 w2 = S1 at *
  generalize (fun k => k = g2 ∨ ∃ ad, A = some ad ∧ b ≠ [] ∧ ad.block = k) = S2 at *
  have hs1 := hf1.ext.size
  have hs2 := hx2.size
  have hA5 : ∀ ad, A5 = some ad → ad.block ≠ g1 ∧ ad.block ≠ g2 := fun ad ha => by have := (own_block hf1.own ad ha).2; omega
  have hgw : w.heap.size ≤ g1 ∧ w.heap.size ≤ g2 := by omega
  have hm3 : Bs w3 A5 b := hf1.bs.ext (hx2.trans' hx3)
  refine go_LWireRead (k := ?_)
  refine CW_loop (fun e' w' => ∃ (k : Nat) (s : List UInt8 × Int), k ≤ l.length ∧ e' 0 = .slice A b.length c ∧ e' 1 = .slice A1 l.length c1 ∧ e' 5 = .slice A5 b.length c5 ∧ e' 6 = .pointer (some ⟨g1, 0, none⟩) ∧ e' 7 = .pointer (some ⟨g2, 0, none⟩) ∧ e' 8 = .int .i64 k ∧ Ext w w' ∧ Both w' g1 S1 g2 S2 s ∧ Bs w' A5 b) (fun e' _ => l.length - (intOf (e' 8)).toNat) ⟨0, _, Nat.zero_le _, rfl, rfl, rfl, rfl, rfl, rfl, hx03, hB3, hm3⟩ ?_
  rintro e' w4 ⟨k, s, hk, e0, e1, e5, e6, e7, e8, hx4, hB4, hm4⟩
  rw [upd_self e0, upd_self e1, upd_self e5, upd_self e6, upd_self e7, upd_self e8]
  refine go_LWireRead (k := ?_)
  refine CW_cond _ rfl (fun hh => ?_) (fun hh => ?_)
  · have hlt : k < l.length := by have := of_decide_eq_true hh; omega
    clear hh
    obtain ⟨ad, A', c', hA, hat, hok⟩ := hl.get hlt
    subst hA
    refine go_LWireRead (k := ?_)
    refine CW_tree (.q 0 (.q 1 (.q 2 (.q 3 (.q 4 (.q 5 (.a 6 (.q 7 (.q 8 (.q 9 (.q 11 (.a 10 (.a 12 (.q 13 (.q 14 (.q 15 (.q 16 (.q 18 (.q 19 (.q 20 (.q 21 (.a 17 (.q 22 (.q 23 (.q 24 (.q 25 (.q 27 (.a 26 (.a 28 (.q 29 (.q 30 .done))))))))))))))))))))))))))))))) (fun w' => Ext w w') (by kernel_rfl) (by kernel_rfl) (by kernel_rfl) ?_ ?_
    · exact fun w' hx' => hx4.trans' hx'
    intro w5 hx5 hC5
    refine ox_LWireRead (k := ?_)
    apply OX_q _ rfl
    · intro wd hwd
      refine OW_loadX agg_F rfl (fcells l[k] (.slice A' (l[k]).B.length c')) (fcells_length hok.tag) (hat.ext hwd) ?_
      refine OW_nil ?_
      exact stay_mk _ _ _ _
    refine ox_LWireRead (k := ?_)
    refine OW_callC Try.func25 (by kernel_rfl) rfl (one_any _ _ _ _ _ _ (hB4.ext hx5) l[k] A' c' (hok.ext hC5)) rfl ?_
    rintro en w6 ⟨rfl, ⟨s', hB6⟩, hk6⟩
    have hx6 : Ext w w6 := hk6.ext hC5 (fun j hj => by omega)
    have hm6 : Bs w6 A5 b := (hm4.ext hx5).keeps hk6 (fun ad ha => by have := hA5 ad ha; omega)
    clear hB4 hm4 hk6
    obtain ⟨Av, cv, Bv, av, hBv, _⟩ := hB6.v.at_
    have q2 : ∀ wd, Ext w6 wd → wd.cell? ⟨g2, 2, none⟩ = some (.int .i64 s'.2) := fun wd h => h.cell' (hBv.cell 2)
    refine ⟨_, rfl, OW_nil (goOn_sub (fun u => Ext w6 u) (fun u hu => hx6.trans' hu) (Ext.rfl' w6) ?_)⟩
    refine ox_LWireRead (k := ?_)
    refine OW_callV Try.func22 (by kernel_rfl) rfl (rLeft_any _ _ _ _ hB6.r) rfl ?_
    intro w7 hx7
    refine OW_nil (goOn_mk hx7 ?_)
    refine ox_LWireRead (k := ?_)
    refine OW_callV Try.func26 (by kernel_rfl) rfl (vLeft_any _ _ _ _ (hB6.v.ext hx7)) rfl ?_
    intro w8 hx8
    have hx68 := hx7.trans' hx8
    refine OW_nil (goOn_mk hx68 ?_)
    refine ox_LWireRead (k := ?_)
    rw [bne_self]
    refine ox_LWireRead (k := ?_)
    refine OW_callV Try.func20 (by kernel_rfl) rfl (rErr_any _ _ _ _ (hB6.r.ext hx68)) rfl ?_
    intro w9 hx9
    have hx69 := hx68.trans' hx9
    refine OW_nil (goOn_mk hx69 ?_)
    refine ox_LWireRead (k := ?_)
    rw [bne_self]
    refine ox_LWireRead (k := ?_)
    refine OW_callV Try.func21 (by kernel_rfl) rfl (rEnd_any _ _ _ _ (hB6.r.ext hx69)) rfl ?_
    intro w10 hx10
    have hx610 := hx69.trans' hx10
    refine OW_nil (goOn_mk hx610 ?_)
    refine ox_LWireRead (k := ?_)
    refine OW_callV Try.func27 (by kernel_rfl) rfl (vEnd_any _ _ _ _ (hB6.v.ext hx610)) rfl ?_
    intro w11 hx11
    have hx611 := hx610.trans' hx11
    refine OW_nil (goOn_mk hx611 ?_)
    refine ox_LWireRead (k := ?_)
    rw [bne_self]
    refine go_LWireRead (k := ?_)
    refine ⟨⟨k + 1, s', by omega, rfl, rfl, rfl, rfl, rfl, rfl, hx6.trans' hx611, hB6.ext hx611, hm6.ext hx611⟩, ?_⟩
    show l.length - ((k : Int) + 1).toNat < l.length - (k : Int).toNat
    omega
  · clear hh
    refine go_LWireRead (k := ?_)
    refine OW_callV Try.func21 (by kernel_rfl) rfl (rEnd_any _ _ _ _ hB4.r) rfl ?_
    intro w5 hx5
    refine go_LWireRead (k := ?_)
    refine OW_callV Try.func27 (by kernel_rfl) rfl (vEnd_any _ _ _ _ (hB4.v.ext hx5)) rfl ?_
    intro w6 hx6
    have hx46 := hx5.trans' hx6
    refine go_LWireRead (k := ?_)
    rw [beq_self_eq_true]
    refine go_LWireRead (k := ?_)
    refine OW_callV Try.func17 (by kernel_rfl) rfl (refSame_any _ A5 A b b c5 c (hm4.ext hx46) (hb.ext (hx4.trans' hx46)) (by omega)) rfl ?_
    intro w7 hx7
    rw [beq_self_eq_true]
    refine go_LWireRead (k := ?_)
    exact bodyE_ret1 rfl (.bool true) rfl ⟨rfl, (hx4.trans' hx46).trans' hx7⟩
set_option maxRecDepth 100000 in
theorem lifted (os : Os) (started : os.Started) (H : Type) (enc : TypeId × Value → H) :
    ReturnsInHanded {} Try.checked os 5 .any (Rows.wireReadSpec.pre6 enc Try.prog Try.f5 Rows.wireReadRow.domain false) (Rows.wireReadSpec.post enc Try.prog Try.f5 false true false false) := by
  refine returnsInHanded_of_change_sized (C := Try.checked) ownP started (by kernel_rfl) Try.func5
    (ChangeSpec.witness6 (enc := enc) (C := Try.checked) false ⟨#[], #[.slice none 0 0, .slice none 0 0], []⟩ 8 (by kernel_rfl) (by kernel_rfl) (by kernel_rfl) (by kernel_rfl)) ?_
  intro W base args ds gs before hval0 hW hcnd hwt0 _
  have hval : ∀ (j : Nat) t v, Try.f5.params[j]? = some t → args[j]? = some v → Value.okWide Try.prog W .any base t v := hval0
  have hW' := hW
  obtain ⟨p, q, hA0, hV, rfl, hfz, hnd⟩ := hW
  have hA : DataW.TrodAll enc Try.prog W 0 (fun _ => true) true Try.f5.params.toList args.toList ds p := hA0
  have hwt : (DataW.weightsEach Try.prog (Try.f5.params.toList ++ []) (ds ++ gs)).all (· ≤ reachBytes) = true := hwt0
  rw [Try.params5] at hA hval hwt
  obtain ⟨v0, vs0, d0, ds0, p0, q0, hargs, rfl, rfl, h0, r0⟩ := trodAll_cons hA
  obtain ⟨v1, vs1, d1, ds1, p1, q1, rfl, rfl, rfl, h1, r1⟩ := trodAll_cons r0
  obtain ⟨rfl, rfl, rfl⟩ := trodAll_nil r1
  obtain rfl : args = #[v0, v1] := by cases args; simp_all
  obtain ⟨rfl, rfl⟩ := trodVars_none hV
  have k0 := h0
  have lt0 : ∀ x ∈ p0, x.block < W.heap.size := by obtain ⟨m, hm⟩ := k0; exact DataW.trod_lt m _ _ _ hm
  have wk0 : WOk Try.prog 26 d0 := wok_each hwt 0 rfl rfl
  obtain ⟨a0, b0⟩ := kd_slice kBs und_bytes (hval 0 26 v0 rfl rfl) h0 wk0
  have k1 := h1
  have lt1 : ∀ x ∈ p1, x.block < W.heap.size := by obtain ⟨m, hm⟩ := k1; exact DataW.trod_lt m _ _ _ hm
  have wk1 : WOk Try.prog 22 d1 := wok_each hwt 1 rfl rfl
  obtain ⟨a1, b1⟩ := kd_slice kFields und_Fs (hval 1 22 v1 rfl rfl) h1 wk1
  clear hA0 hval0 hwt0
  refine (walk W v0 a0 b0 v1 a1 b1).mono fun e W' ⟨he, bel⟩ => ?_
  subst he
  exact ⟨_, rfl, _, _, _, [], _, [], hW', trodAll_mk1 (shut_bool Try.underlying4 _), (trodAll_cons_mk (Below.trod laidP (by kernel_rfl) (of_decide_eq_true (by kernel_rfl)) k0 bel lt0) (trodAll_cons_mk (Below.trod laidP (by kernel_rfl) (of_decide_eq_true (by kernel_rfl)) k1 bel lt1) trodAll_mk0)), rfl, bel.frame _, fun h => by cases h⟩
theorem over : Rows.wireReadRow.holds Try.pinned (OpenSpec.ofChange Rows.wireReadSpec) :=
  OpenClaim.holds_of_wide 5 Try.f5 rfl rfl rfl rfl rfl rfl rfl ⟨rfl, rfl, rfl, rfl, rfl⟩ rfl rfl rfl rfl rfl (by kernel_rfl) Try.func5 (by kernel_rfl)
    (of_decide_eq_true (by kernel_rfl)) (by unfold Func.isWrapper; first | (rw [if_pos (by decide +kernel)]; kernel_rfl) | (rw [if_neg (by decide +kernel)]; exact ⟨rfl, rfl⟩))
    (fun os started H enc _ => lifted os started H enc)
theorem proved : Rows.WireReadSaid := over
#print axioms proved
end Go.Proofs.Ytnaflojlmgnkgaa.lawWireRead
