/- Walks: the reference's form of a reply. -/
import Derived.Test.YthhphmbhlddihaaRep2
namespace Go.Proofs.Ythhphmbhlddihaa
open Go Go.RowKit
set_option linter.unusedVariables false
set_option maxRecDepth 4000
theorem go_Rep3 {A B : Prop} (h : Held B → A := by
  intro hEnd
  repeat (first | refine OW_fieldF fld_P0 rfl ?_ | refine OW_fieldF fld_P1 rfl ?_ | refine OW_fieldF fld_P2 rfl ?_ | refine OW_fieldF fld_P3 rfl ?_ | refine OW_fieldF fld_P4 rfl ?_ | refine OW_lenL und_string rfl ?_ | refine OW_lenS und_strs rfl ?_ | refine OW_idxS und_strs one_str rfl rfl _ rfl (by omega) ?_ | refine OW_fieldF fld_L0 rfl ?_ | refine OW_fieldF fld_L1 rfl ?_ | refine OW_fieldF fld_L2 rfl ?_ | refine OW_fieldF fld_L3 rfl ?_ | refine OW_fieldF fld_L4 rfl ?_ | refine OW_fieldF fld_L5 rfl ?_ | refine OW_fieldF fld_L6 rfl ?_ | refine OW_fieldF fld_L7 rfl ?_ | refine OW_fieldBL fldo_L8 rfl ?_ | refine OW_lenS und_ints rfl ?_ | refine OW_idxS und_ints one_int rfl rfl _ rfl (by omega) ?_ | refine OW_moveV (.int _ _) rfl ?_ | refine OW_moveV (.slice _ _ _) rfl ?_ | refine OW_moveV (.bool _) rfl ?_ | refine OW_moveV (.pointer _) rfl ?_ | refine OW_moveV (.string _) rfl ?_ | refine OW_moveV (.agg _) rfl ?_ | refine OW_moveV (.tuple _) rfl ?_ | refine OW_nil ?_ | refine thenE_normal ?_ | refine CW_seq ?_ | refine CW_region (by kernel_rfl) ?_ | refine OW_assignV (.int _ _) rfl ?_ | refine OW_assignV (.slice _ _ _) rfl ?_ | refine OW_assignV (.bool _) rfl ?_ | refine OW_assignV (.pointer _) rfl ?_ | refine OW_assignV (.string _) rfl ?_ | refine OW_assignV (.agg _) rfl ?_ | refine OW_assignV (.tuple _) rfl ?_ | refine OW_addI rfl rfl (by omega) ?_ | refine OW_subI rfl rfl (by omega) ?_ | refine OW_mulI rfl rfl (by omega) ?_ | refine OW_lss rfl rfl ?_ | refine OW_extract rfl rfl ?_ | refine OW_gtr rfl rfl ?_ | refine OW_leq rfl rfl ?_ | refine OW_geq rfl rfl ?_ | refine OW_eql rfl rfl ?_ | refine OW_neq rfl rfl ?_ | refine OW_not rfl ?_ | refine OW_pickT rfl _ rfl ?_ | refine OW_pickF rfl (.bool _) rfl ?_ | refine OW_pickB rfl rfl rfl ?_ | refine OW_move ?_ | refine OW_assign ?_ | refine OW_pass rfl ?_ | refine OW_take rfl ?_ | refine OW_lenS (by first | with_reducible exact und_bytes | with_reducible exact und_bytess) rfl ?_ | refine OW_convInt (by first | with_reducible exact und_u8 | with_reducible exact und_u64 | with_reducible exact und_int | with_reducible exact und_u32) (by first | with_reducible exact und_u8 | with_reducible exact und_u64 | with_reducible exact und_int | with_reducible exact und_u32) rfl ?_ | refine OW_add rfl rfl ?_ | refine OW_sub rfl rfl ?_ | refine OW_mul rfl rfl ?_ | refine OW_min2 rfl rfl ?_ | refine OW_max2 rfl rfl ?_ | refine OW_neg rfl ?_ | refine CW_block ?_ | refine CW_condT rfl ?_ | refine CW_condF rfl ?_ | refine CW_exit ?_ | refine CW_ret ?_ | refine CW_skip ?_ | refine LW_seq ?_ | refine LW_regC ?_ | refine LW_condC ?_ | refine LW_regF ?_ | refine LW_condF ?_ | refine FW_seq ?_ | refine FW_region (by kernel_rfl) ?_ | refine FW_block ?_ | refine FW_condT rfl ?_ | refine FW_condF rfl ?_ | refine FW_exit ?_ | refine FW_ret ?_ | refine FW_skip ?_ | refine LW_ret ?_ | refine LW_skip ?_ | refine thenE_exit ?_ | refine thenE_ret ?_ | refine inBlockE_normal ?_ | refine inBlockE_same ?_ | refine inBlockE_ret ?_ | refine inBlockE_ne (by rfl) ?_ | refine OW_eqlB (by with_reducible exact und_bool) rfl rfl ?_ | refine OW_neqB (by with_reducible exact und_bool) rfl rfl ?_ | refine OW_idxS (by with_reducible exact und_bytes) one_u8 rfl rfl _ rfl (by omega) ?_ | refine OW_idxS (by with_reducible exact und_bytess) one_bytes rfl rfl _ rfl (by omega) ?_ | refine OW_load1 (by first | with_reducible exact one_u8 | with_reducible exact one_bytes) rfl _ (by assumption) ?_ | (refine OW_isLoad ?_; refine OW_loadBk (by first | with_reducible exact one_int | with_reducible exact one_str | with_reducible exact one_strs | with_reducible exact one_errno | with_reducible exact one_u8) rfl (by assumption) _ rfl ?_) | refine OW_load1 (by first | with_reducible exact one_int | with_reducible exact one_str | with_reducible exact one_strs | with_reducible exact one_errno | with_reducible exact one_u8) rfl _ (by assumption) ?_)
  exact hEnd.out) (k : B) : A := h ⟨k⟩
theorem info_int15 : (Try.prog.info? 3).map (fun i => (i.zero, i.size, i.bytes)) = some (some (.int .i64 0), 1, 8) := by kernel_rfl
def i64P (l : List Int) : List UInt8 := (l.map fun n => putL (u64N n) 8).flatten
section
variable {ops : Array Oper} {Q : Exit → (Nat → Value) → World → Prop} {rest : List Oper} {e : Nat → Value} {w : World} {d : Tmp} {ty : TypeId} {pos : String} {aft : Array Edge}
/-- Bytes more onto bytes of the call's own; blocks of other types stay. -/
theorem OW_apT {x y : Operand} {base : Nat} {A A' : Option Addr} {c c' : Nat} {l l' : List UInt8} (hx : ev e x = .slice A l.length c) (hy : ev e y = .slice A' l'.length c') (ho : w.ownsRow base 5 1 (.slice A l.length c) l.length (l.map bv)) (hb : Bs w A' l') (hl : l.length + l'.length ≤ 1000000) (hbase : base ≤ w.heap.size)
    (h : ∀ w' A2 c2, w'.ownsRow base 5 1 (.slice A2 (l ++ l').length c2) (l ++ l').length ((l ++ l').map bv) → (∀ g T cs, T ≠ 5 → Blk w g T cs → Blk w' g T cs) → Below base w w' → OW Try.prog ops Q rest (upd e d (.slice A2 (l ++ l').length c2)) w') :
    OW Try.prog ops Q (⟨some d, .call { callee := .builtin .append, args := #[x, y], argTypes := #[22, 22] }, ty, pos, aft, none⟩ :: rest) e w := by
  refine OW_appendK und_bytes info_u8 rfl hx hy ho hb (by simp) (bv_one l') (by unfold maxLen; omega) (by omega) hbase ?_
  intro w' A2 c2 ho2 hg hw
  rw [← List.map_append, ← List.length_append] at ho2
  rw [← List.length_append]
  refine h w' A2 c2 ho2 (fun g T cs hT hB => hB.keeps (S := fun k => ∃ ad, A = some ad ∧ ad.block = k) (Keeps.of_grown hg (fun b hb => by
    cases A with
    | none => cases hb
    | some ad => cases hb; exact ⟨ad, rfl, rfl⟩)) (fun ⟨ad, ha, hb⟩ => own_ne_blk ho hB (fun h => hT h.symm) ad ha hb)) ?_
  exact (Keeps.of_grown (S := fun k => base ≤ k) hg (fun b hb => by
    cases A with
    | none => cases hb
    | some ad => cases hb; exact (own_block ho ad rfl).1)).below (fun k hk => hk) hbase
end
theorem i64P_len (l : List Int) : (i64P l).length = 8 * l.length := by
  unfold i64P
  induction l with
  | nil => rfl
  | cons n l ih => rw [List.map_cons, List.flatten_cons, List.length_append, putL_length, ih, List.length_cons]; omega
set_option maxHeartbeats 8000000 in
theorem replyForm_any (w : World) (A : Option Addr) (c : Nat) (r : RP) (h : ROk w r A c) (hm : mayP r = true) : Calls Try.prog 45 #[.agg (rcells r (.slice A r.keys.length c)).toArray] w (RetBs 5 w (repF r)) := by
  unfold mayP at hm
  rw [Bool.and_eq_true, Bool.and_eq_true] at hm
  have hk16 := of_decide_eq_true hm.1.1
  have hv512 := of_decide_eq_true hm.1.2
  have hkall := hm.2
  have hkf := keys_flat r.keys
  have hko := ksum_ok hkall
  clear hm
  refine calls_of_CW Try.func45 rfl (by simp [Try.ntmps45]) ?_
  rw [Try.ntmps45]
  refine go_Rep3 (k := ?_)
  refine OW_box _ rfl ?_
  intro w1 g hb hg hlt hx
  have hb : Blk w1 g 69 (rcells r (.slice A r.keys.length c)).toArray := hb
  have hLo := h.l
  refine go_Rep3 (k := ?_)
  refine OW_callBs Try.func79 (by kernel_rfl) rfl (refInt_any w1 r.err) rfl ?_
  intro w2 A2 c2 hf2
  obtain ⟨z2, hz2⟩ : ∃ z, putL (u64N r.err) 8 = z := ⟨_, rfl⟩
  have l2 : z2.length = 8 := by rw [← hz2, putL_length]
  rw [hz2] at hf2 ⊢
  have ho2 := own_mono hf2.own hx.size
  have hx2 := hx.trans' hf2.ext
  have hb2 := hb.ext hf2.ext
  clear hb hf2
  refine go_Rep3 (k := ?_)
  refine OW_bytesOf ⟨r.value.toArray⟩ und_string und_bytes und_u8 rfl ?_
  intro w3 A3 c3 hb3 hA3 hx3
  have hb3 : Bs w3 A3 r.value := hb3
  refine go_Rep3 (k := ?_)
  refine OW_callBs Try.func80 (by kernel_rfl) rfl (refBytes_any w3 A3 r.value c3 hb3 (by omega)) rfl ?_
  intro w4 A4 c4 hf4
  have hx34 := hx3.trans' hf4.ext
  refine OW_apT rfl rfl (own_ext ho2 hx34) hf4.bs (by rw [List.length_append, putL_length]; omega) (hx2.trans' hx34).size ?_
  intro w5 A5 c5 ho5 hT5 hbel5
  obtain ⟨z5, hz5⟩ : ∃ z, z2 ++ (putL r.value.length 4 ++ r.value) = z := ⟨_, rfl⟩
  have l5 : z5.length = 12 + r.value.length := by rw [← hz5, List.length_append, List.length_append, putL_length]; omega
  rw [hz5] at ho5 ⊢
  have hx5 : Ext w w5 := (hx2.trans' hx34).trans hbel5
  have hb5 := hT5 _ _ _ (by decide) (hb2.ext hx34)
  clear hb2 hT5 hf4
  refine go_Rep3 (k := ?_)
  refine OW_callBs Try.func79 (by kernel_rfl) rfl (refInt_any w5 r.keys.length) rfl ?_
  intro w6 A6 c6 hf6
  refine OW_apT rfl rfl (own_ext ho5 hf6.ext) hf6.bs (by rw [putL_length]; omega) (hx5.trans' hf6.ext).size ?_
  intro w7 A7 c7 ho7 hT7 hbel7
  obtain ⟨z7, hz7⟩ : ∃ z, z5 ++ putL (u64N r.keys.length) 8 = z := ⟨_, rfl⟩
  have l7 : z7.length = 20 + r.value.length := by rw [← hz7, List.length_append, putL_length]; omega
  rw [hz7] at ho7 ⊢
  have hx7 : Ext w w7 := (hx5.trans' hf6.ext).trans hbel7
  have hb7 := hT7 _ _ _ (by decide) (hb5.ext hf6.ext)
  clear hb5 hT7 hf6
  refine go_Rep3 (k := ?_)
  refine CW_meetB (fun e' w' => ∃ A8 c8, e' 1 = .pointer (some ⟨g, 0, none⟩) ∧ e' 3 = .slice A8 (z7 ++ (r.keys.flatMap keyP).flatten).length c8 ∧ w'.ownsRow w.heap.size 5 1 (.slice A8 (z7 ++ (r.keys.flatMap keyP).flatten).length c8) (z7 ++ (r.keys.flatMap keyP).flatten).length ((z7 ++ (r.keys.flatMap keyP).flatten).map bv) ∧ Ext w w' ∧ Blk w' g 69 (rcells r (.slice A r.keys.length c)).toArray) ?_ ?_
  · refine go_Rep3 (k := ?_)
    refine CW_loop (fun e' w' => ∃ (k : Nat) (A8 : Option Addr) (c8 : Nat), k ≤ r.keys.length ∧ e' 1 = .pointer (some ⟨g, 0, none⟩) ∧ e' 3 = .slice A8 (z7 ++ ((r.keys.take k).flatMap keyP).flatten).length c8 ∧ e' 4 = .int .i64 k ∧ w'.ownsRow w.heap.size 5 1 (.slice A8 (z7 ++ ((r.keys.take k).flatMap keyP).flatten).length c8) (z7 ++ ((r.keys.take k).flatMap keyP).flatten).length ((z7 ++ ((r.keys.take k).flatMap keyP).flatten).map bv) ∧ Ext w w' ∧ Blk w' g 69 (rcells r (.slice A r.keys.length c)).toArray) (fun e' _ => r.keys.length - (intOf (e' 4)).toNat) ⟨0, A7, c7, Nat.zero_le _, rfl, by rw [List.take_zero]; simp only [List.flatMap_nil, List.flatten_nil, List.append_nil]; rfl, rfl, by rw [List.take_zero]; simpa using ho7, hx7, hb7⟩ ?_
    rintro e' w8 ⟨k, A8, c8, hk, e1, e3, e4, ho8, hx8, hb8⟩
    rw [upd_self e1, upd_self e3, upd_self e4]
    have hkl := keys_flat (r.keys.take k)
    have hkt := ksum_take_le r.keys k
    obtain ⟨z8, hz8⟩ : ∃ z, z7 ++ ((r.keys.take k).flatMap keyP).flatten = z := ⟨_, rfl⟩
    have l8 : z8.length ≤ 10000 := by rw [← hz8, List.length_append]; omega
    rw [hz8] at ho8 ⊢
    refine go_Rep3 (k := ?_)
    refine CW_cond _ rfl (fun hh => ?_) (fun hh => ?_)
    · have hlt2 : k < r.keys.length := by have := of_decide_eq_true hh; omega
      clear hh
      obtain ⟨ad, hA, hc⟩ := keys_at (h.ks.ext hx8) hlt2
      have hsucc : ((r.keys.take (k + 1)).flatMap keyP).flatten = ((r.keys.take k).flatMap keyP).flatten ++ (putL (r.keys[k]).length 4 ++ r.keys[k]) := by rw [List.take_succ_eq_append_getElem hlt2, List.flatMap_append, List.flatten_append]; simp [keyP]
      have hkl2 : (r.keys[k]).length ≤ 512 := of_decide_eq_true (List.all_eq_true.1 hkall _ (List.getElem_mem hlt2))
      have hz9 : z8 ++ (putL (r.keys[k]).length 4 ++ r.keys[k]) = z7 ++ ((r.keys.take (k + 1)).flatMap keyP).flatten := by rw [hsucc, ← hz8, List.append_assoc]
      generalize r.keys[k] = y at *
      subst hA
      refine go_Rep3 (k := ?_)
      refine OW_bytesOf ⟨y.toArray⟩ und_string und_bytes und_u8 rfl ?_
      intro w9 A9 c9 hb9 hA9 hx9
      have hb9 : Bs w9 A9 y := hb9
      refine go_Rep3 (k := ?_)
      refine OW_callBs Try.func80 (by kernel_rfl) rfl (refBytes_any w9 A9 y c9 hb9 (by omega)) rfl ?_
      intro w10 A10 c10 hf10
      have hx910 := hx9.trans' hf10.ext
      refine OW_apT rfl rfl (own_ext ho8 hx910) hf10.bs (by rw [List.length_append, putL_length]; omega) (hx8.trans' hx910).size ?_
      intro w11 A11 c11 ho11 hT11 hbel11
      rw [hz9] at ho11 ⊢
      refine go_Rep3 (k := ?_)
      refine ⟨⟨k + 1, A11, c11, by omega, rfl, rfl, rfl, ho11, (hx8.trans' hx910).trans hbel11, hT11 _ _ _ (by decide) (hb8.ext hx910)⟩, ?_⟩
      show r.keys.length - ((k : Int) + 1).toNat < r.keys.length - (k : Int).toNat
      omega
    · have hge : k = r.keys.length := by have := of_decide_eq_false hh; omega
      subst hge
      rw [List.take_of_length_le (Nat.le_refl _)] at hz8
      subst hz8
      refine go_Rep3 (k := ?_)
      exact ⟨rfl, A8, c8, rfl, rfl, ho8, hx8, hb8⟩
  rintro e8 w8 ⟨A8, c8, q1, q3, ho8, hx8, hb8⟩
  rw [upd_self q1, upd_self q3]
  obtain ⟨z8, hz8⟩ : ∃ z, z7 ++ (r.keys.flatMap keyP).flatten = z := ⟨_, rfl⟩
  have l8 : z8.length ≤ 10000 := by rw [← hz8, List.length_append]; omega
  rw [hz8] at ho8 ⊢
  refine go_Rep3 (k := ?_)
  refine OW_loadX agg_Link rfl (lcells r.link) (lcells_length hLo) (link_in hb8) ?_
  refine go_Rep3 (k := ?_)
  refine OW_allocA agg_Link ?_
  intro w9 g9 hb9 hg9 hlt9 hx9
  refine go_Rep3 (k := ?_)
  refine OW_storeA agg_Link rfl (lcells r.link) rfl (lcells_length hLo) hb9 (by kernel_rfl) (lcells_one _) ?_
  intro w10 hb10 hg10
  have hx810 : Ext w8 w10 := (Keeps.of_only (S := (· = g9)) hg10 rfl).ext hx9 (fun j hj => by omega)
  have ho10 := own_ext ho8 hx810
  have hx10 := hx8.trans' hx810
  have hr10 := hb8.ext hx810
  have hk10 : Blk w10 g9 67 (lcells r.link).toArray := hb10
  clear hb8 hb9 ho8 hb10
  refine go_Rep3 (k := ?_)
  refine OW_callBs Try.func79 (by kernel_rfl) rfl (refInt_any w10 r.n) rfl ?_
  intro w11a A11a c11a hf11
  refine OW_apT rfl rfl (own_ext ho10 hf11.ext) hf11.bs (by rw [putL_length]; omega) (hx10.trans' hf11.ext).size ?_
  intro w11 A11 c11 ho11 hT11 hbel11
  obtain ⟨z11, hz11⟩ : ∃ z, z8 ++ putL (u64N r.n) 8 = z := ⟨_, rfl⟩
  have l11 : z11.length ≤ 10008 := by rw [← hz11, List.length_append, putL_length]; omega
  rw [hz11] at ho11 ⊢
  have hx11 : Ext w w11 := (hx10.trans' hf11.ext).trans hbel11
  have hr11 := hT11 _ _ _ (by decide) (hr10.ext hf11.ext)
  have hk11 := hT11 _ _ _ (by decide) (hk10.ext hf11.ext)
  clear hr10 hk10 ho10 hT11 hf11
  refine go_Rep3 (k := ?_)
  refine OW_callBs Try.func79 (by kernel_rfl) rfl (refInt_any w11 r.link.n) rfl ?_
  intro w12a A12a c12a hf12
  refine OW_apT rfl rfl (own_ext ho11 hf12.ext) hf12.bs (by rw [putL_length]; omega) (hx11.trans' hf12.ext).size ?_
  intro w12 A12 c12 ho12 hT12 hbel12
  obtain ⟨z12, hz12⟩ : ∃ z, z11 ++ putL (u64N r.link.n) 8 = z := ⟨_, rfl⟩
  have l12 : z12.length ≤ 10016 := by rw [← hz12, List.length_append, putL_length]; omega
  rw [hz12] at ho12 ⊢
  have hx12 : Ext w w12 := (hx11.trans' hf12.ext).trans hbel12
  have hr12 := hT12 _ _ _ (by decide) (hr11.ext hf12.ext)
  have hk12 := hT12 _ _ _ (by decide) (hk11.ext hf12.ext)
  clear hr11 hk11 ho11 hT12 hf12
  refine go_Rep3 (k := ?_)
  refine OW_callBs Try.func79 (by kernel_rfl) rfl (refInt_any w12 r.link.stamp) rfl ?_
  intro w13a A13a c13a hf13
  refine OW_apT rfl rfl (own_ext ho12 hf13.ext) hf13.bs (by rw [putL_length]; omega) (hx12.trans' hf13.ext).size ?_
  intro w13 A13 c13 ho13 hT13 hbel13
  obtain ⟨z13, hz13⟩ : ∃ z, z12 ++ putL (u64N r.link.stamp) 8 = z := ⟨_, rfl⟩
  have l13 : z13.length ≤ 10024 := by rw [← hz13, List.length_append, putL_length]; omega
  rw [hz13] at ho13 ⊢
  have hx13 : Ext w w13 := (hx12.trans' hf13.ext).trans hbel13
  have hr13 := hT13 _ _ _ (by decide) (hr12.ext hf13.ext)
  have hk13 := hT13 _ _ _ (by decide) (hk12.ext hf13.ext)
  clear hr12 hk12 ho12 hT13 hf13
  refine go_Rep3 (k := ?_)
  refine OW_litB [r.link.op] rfl rfl rfl (by decide) ?_
  intro w14a g14 hb14 hg14 hx14 hB14
  refine OW_apT rfl rfl (own_ext ho13 hx14) hb14 (by simp; omega) (hx13.trans' hx14).size ?_
  intro w14 A14 c14 ho14 hT14 hbel14
  obtain ⟨z14, hz14⟩ : ∃ z, z13 ++ [r.link.op] = z := ⟨_, rfl⟩
  have l14 : z14.length ≤ 10025 := by rw [← hz14, List.length_append]; simp; omega
  rw [hz14] at ho14 ⊢
  have hx14' : Ext w w14 := (hx13.trans' hx14).trans hbel14
  have hr14 := hT14 _ _ _ (by decide) (hr13.ext hx14)
  have hk14 := hT14 _ _ _ (by decide) (hk13.ext hx14)
  clear hr13 hk13 ho13 hT14 hB14 hb14
  refine go_Rep3 (k := ?_)
  refine OW_lit [.int .i64 r.link.ten, .int .i64 r.link.a, .int .i64 r.link.b, .int .i64 r.link.c] und_ints info_int15 rfl rfl (by simp [Value.oneCell']) (by decide) ?_
  intro w15 g15 hb15 hg15 hx15
  have ho15 := own_ext ho14 hx15
  have hk15 := hk14.ext hx15
  have hx15' := hx14'.trans' hx15
  obtain ⟨ns, hns⟩ : ∃ ns, ns = [r.link.ten, r.link.a, r.link.b, r.link.c] := ⟨_, rfl⟩
  have hnl : ns.length = 4 := by rw [hns]; rfl
  have hbn : Blk w15 g15 3 (ns.map (Value.int .i64)).toArray := by rw [hns]; exact hb15
  clear hk14 ho14 hb15 hr14
  refine go_Rep3 (k := ?_)
  refine CW_meetB (fun e' w' => ∃ A8 c8, e' 5 = .pointer (some ⟨g9, 0, none⟩) ∧ e' 3 = .slice A8 (z14 ++ i64P ns).length c8 ∧ w'.ownsRow w.heap.size 5 1 (.slice A8 (z14 ++ i64P ns).length c8) (z14 ++ i64P ns).length ((z14 ++ i64P ns).map bv) ∧ Ext w w' ∧ Blk w' g9 67 (lcells r.link).toArray) ?_ ?_
  · refine go_Rep3 (k := ?_)
    refine CW_loop (fun e' w' => ∃ (k : Nat) (A8 : Option Addr) (c8 : Nat), k ≤ 4 ∧ e' 5 = .pointer (some ⟨g9, 0, none⟩) ∧ e' 6 = .slice (some ⟨g15, 0, none⟩) 4 4 ∧ e' 3 = .slice A8 (z14 ++ i64P (ns.take k)).length c8 ∧ e' 7 = .int .i64 k ∧ w'.ownsRow w.heap.size 5 1 (.slice A8 (z14 ++ i64P (ns.take k)).length c8) (z14 ++ i64P (ns.take k)).length ((z14 ++ i64P (ns.take k)).map bv) ∧ Ext w w' ∧ Blk w' g9 67 (lcells r.link).toArray ∧ Blk w' g15 3 (ns.map (Value.int .i64)).toArray) (fun e' _ => 4 - (intOf (e' 7)).toNat) ⟨0, A14, c14, Nat.zero_le _, rfl, rfl, by rw [List.take_zero]; simp only [i64P, List.map_nil, List.flatten_nil, List.append_nil]; rfl, rfl, by rw [List.take_zero]; simpa [i64P] using ho15, hx15', hk15, hbn⟩ ?_
    rintro e' w16 ⟨k, A8, c8, hk, e5, e6, e3, e7, ho16, hx16, hk16', hn16⟩
    rw [upd_self e5, upd_self e6, upd_self e3, upd_self e7]
    have htl := i64P_len (ns.take k)
    rw [List.length_take] at htl
    obtain ⟨z16, hz16⟩ : ∃ z, z14 ++ i64P (ns.take k) = z := ⟨_, rfl⟩
    have l16 : z16.length ≤ 10100 := by rw [← hz16, List.length_append]; omega
    rw [hz16] at ho16 ⊢
    refine go_Rep3 (k := ?_)
    refine CW_cond _ rfl (fun hh => ?_) (fun hh => ?_)
    · have hlt2 : k < 4 := by have := of_decide_eq_true hh; omega
      clear hh
      have hc : w16.cell? ((⟨g15, 0, none⟩ : Addr).add k) = some (.int .i64 (ns[k]'(by omega))) := by
        rw [add0, hn16.cell]
        simp [show k < ns.length by omega]
      have hz17 : z16 ++ putL (u64N (ns[k]'(by omega))) 8 = z14 ++ i64P (ns.take (k + 1)) := by
        rw [← hz16, List.append_assoc]
        congr 1
        unfold i64P
        rw [List.take_succ_eq_append_getElem (show k < ns.length by omega), List.map_append, List.flatten_append]
        simp
      generalize ns[k]'(by omega) = y at *
      refine go_Rep3 (k := ?_)
      refine OW_callBs Try.func79 (by kernel_rfl) rfl (refInt_any w16 y) rfl ?_
      intro w17 A17 c17 hf17
      refine OW_apT rfl rfl (own_ext ho16 hf17.ext) hf17.bs (by rw [putL_length]; omega) (hx16.trans' hf17.ext).size ?_
      intro w18 A18 c18 ho18 hT18 hbel18
      rw [hz17] at ho18 ⊢
      refine go_Rep3 (k := ?_)
      refine ⟨⟨k + 1, A18, c18, by omega, rfl, rfl, rfl, rfl, ho18, (hx16.trans' hf17.ext).trans hbel18, hT18 _ _ _ (by decide) (hk16'.ext hf17.ext), hT18 _ _ _ (by decide) (hn16.ext hf17.ext)⟩, ?_⟩
      show 4 - ((k : Int) + 1).toNat < 4 - (k : Int).toNat
      omega
    · have hge : k = 4 := by have := of_decide_eq_false hh; omega
      subst hge
      rw [List.take_of_length_le (by omega)] at hz16
      subst hz16
      refine go_Rep3 (k := ?_)
      exact ⟨rfl, A8, c8, rfl, rfl, ho16, hx16, hk16'⟩
  rintro e16 w16 ⟨A16, c16, q5, q3, ho16, hx16, hk16'⟩
  rw [upd_self q5, upd_self q3]
  have htl := i64P_len ns
  obtain ⟨z16, hz16⟩ : ∃ z, z14 ++ i64P ns = z := ⟨_, rfl⟩
  have l16 : z16.length ≤ 10100 := by rw [← hz16, List.length_append]; omega
  rw [hz16] at ho16 ⊢
  have lA : (r.link.ahead.map bv).length = 32 := by simp [hLo.ahead]
  have lS : (r.link.self.map bv).length = 32 := by simp [hLo.self]
  refine go_Rep3 (k := ?_)
  refine OW_loadX agg_Tag rfl (r.link.ahead.map bv) lA (ahead_in hLo hk16') ?_
  refine go_Rep3 (k := ?_)
  refine OW_callBs Try.func81 (by kernel_rfl) rfl (refTag_any w16 r.link.ahead hLo.ahead) rfl ?_
  intro w17 A17 c17 hf17
  refine OW_apT rfl rfl (own_ext ho16 hf17.ext) hf17.bs (by rw [hLo.ahead]; omega) (hx16.trans' hf17.ext).size ?_
  intro w18 A18 c18 ho18 hT18 hbel18
  obtain ⟨z18, hz18⟩ : ∃ z, z16 ++ r.link.ahead = z := ⟨_, rfl⟩
  have l18 : z18.length ≤ 10132 := by rw [← hz18, List.length_append, hLo.ahead]; omega
  rw [hz18] at ho18 ⊢
  have hx18 : Ext w w18 := (hx16.trans' hf17.ext).trans hbel18
  have hk18 := hT18 _ _ _ (by decide) (hk16'.ext hf17.ext)
  refine go_Rep3 (k := ?_)
  refine OW_loadX agg_Tag rfl (r.link.self.map bv) lS (self_in hLo hk18) ?_
  refine go_Rep3 (k := ?_)
  refine OW_callBs Try.func81 (by kernel_rfl) rfl (refTag_any w18 r.link.self hLo.self) rfl ?_
  intro w19 A19 c19 hf19
  refine OW_apT rfl rfl (own_ext ho18 hf19.ext) hf19.bs (by rw [hLo.self]; omega) (hx18.trans' hf19.ext).size ?_
  intro w20 A20 c20 ho20 hT20 hbel20
  have hfin : z18 ++ r.link.self = repF r := by
    rw [← hz18, ← hz16, hns, ← hz14, ← hz13, ← hz12, ← hz11, ← hz8, ← hz7, ← hz5, ← hz2]
    simp [repF, repP, headP, linkP, i64P, List.append_assoc]
  rw [hfin] at ho20 ⊢
  refine go_Rep3 (k := ?_)
  exact bodyE_ret1 rfl _ rfl ⟨A20, c20, rfl, ho20, (hx18.trans' hf19.ext).trans hbel20⟩
end Go.Proofs.Ythhphmbhlddihaa
