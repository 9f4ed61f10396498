/- Walks: the chapter's examples of wire. -/
import Derived.Test.YthhphmbhlddihaaWireX
namespace Go.Proofs.Ythhphmbhlddihaa
open Go Go.RowKit
set_option linter.unusedVariables false
set_option maxRecDepth 4000
theorem go_WireY {A B : Prop} (h : Held B → A := by
  intro hEnd
  repeat (first | refine OW_neqF rfl rfl rfl ?_ | refine OW_eqlTr rfl rfl rfl ?_ | refine OW_eqlST rfl rfl rfl ?_ | refine OW_moveV (.int _ _) rfl ?_ | refine OW_moveV (.slice _ _ _) rfl ?_ | refine OW_moveV (.bool _) rfl ?_ | refine OW_moveV (.pointer _) rfl ?_ | refine OW_moveV (.string _) rfl ?_ | refine OW_moveV (.agg _) rfl ?_ | refine OW_moveV (.tuple _) rfl ?_ | refine OW_nil ?_ | refine thenE_normal ?_ | refine CW_seq ?_ | refine CW_region (by kernel_rfl) ?_ | refine OW_assignV (.int _ _) rfl ?_ | refine OW_assignV (.slice _ _ _) rfl ?_ | refine OW_assignV (.bool _) rfl ?_ | refine OW_assignV (.pointer _) rfl ?_ | refine OW_assignV (.string _) rfl ?_ | refine OW_assignV (.agg _) rfl ?_ | refine OW_assignV (.tuple _) rfl ?_ | refine OW_addI rfl rfl (by omega) ?_ | refine OW_subI rfl rfl (by omega) ?_ | refine OW_mulI rfl rfl (by omega) ?_ | refine OW_lss rfl rfl ?_ | refine OW_extract rfl rfl ?_ | refine OW_gtr rfl rfl ?_ | refine OW_leq rfl rfl ?_ | refine OW_geq rfl rfl ?_ | refine OW_eql rfl rfl ?_ | refine OW_neq rfl rfl ?_ | refine OW_not rfl ?_ | refine OW_pickT rfl _ rfl ?_ | refine OW_pickF rfl (.bool _) rfl ?_ | refine OW_pickB rfl rfl rfl ?_ | refine OW_move ?_ | refine OW_assign ?_ | refine OW_pass rfl ?_ | refine OW_take rfl ?_ | refine OW_lenS (by first | with_reducible exact und_bytes | with_reducible exact und_bytess) rfl ?_ | refine OW_convInt (by first | with_reducible exact und_u8 | with_reducible exact und_u64 | with_reducible exact und_int | with_reducible exact und_u32) (by first | with_reducible exact und_u8 | with_reducible exact und_u64 | with_reducible exact und_int | with_reducible exact und_u32) rfl ?_ | refine OW_add rfl rfl ?_ | refine OW_sub rfl rfl ?_ | refine OW_mul rfl rfl ?_ | refine OW_min2 rfl rfl ?_ | refine OW_max2 rfl rfl ?_ | refine OW_neg rfl ?_ | refine CW_block ?_ | refine CW_condT rfl ?_ | refine CW_condF rfl ?_ | refine CW_exit ?_ | refine CW_ret ?_ | refine CW_skip ?_ | refine LW_seq ?_ | refine LW_regC ?_ | refine LW_condC ?_ | refine LW_regF ?_ | refine LW_condF ?_ | refine FW_seq ?_ | refine FW_region (by kernel_rfl) ?_ | refine FW_block ?_ | refine FW_condT rfl ?_ | refine FW_condF rfl ?_ | refine FW_exit ?_ | refine FW_ret ?_ | refine FW_skip ?_ | refine LW_ret ?_ | refine LW_skip ?_ | refine thenE_exit ?_ | refine thenE_ret ?_ | refine inBlockE_normal ?_ | refine inBlockE_same ?_ | refine inBlockE_ret ?_ | refine inBlockE_ne (by rfl) ?_ | refine OW_eqlB (by with_reducible exact und_bool) rfl rfl ?_ | refine OW_neqB (by with_reducible exact und_bool) rfl rfl ?_ | refine OW_idxS (by with_reducible exact und_bytes) one_u8 rfl rfl _ rfl (by omega) ?_ | refine OW_idxS (by with_reducible exact und_bytess) one_bytes rfl rfl _ rfl (by omega) ?_ | refine OW_load1 (by first | with_reducible exact one_u8 | with_reducible exact one_bytes) rfl _ (by assumption) ?_ | refine OW_load1 one_int rfl _ (by assumption) ?_)
  exact hEnd.out) (k : B) : A := h ⟨k⟩
section
variable {P : Program} {ops : Array Oper} {Q : Exit → (Nat → Value) → World → Prop} {rest : List Oper} {e : Nat → Value} {w : World} {d : Tmp} {ty : TypeId} {pos : String} {aft : Array Edge}
theorem OW_neqF {x y : Operand} {t t' : TypeId} {k : IntKind} {a b : Int} (hx : ev e x = .int k a) (hy : ev e y = .int k b) (hab : a = b) (h : OW P ops Q rest (upd e d (.bool false)) w) : OW P ops Q (⟨some d, .binOp .neq t x y t', ty, pos, aft, none⟩ :: rest) e w := by
  refine OW_neq hx hy ?_
  rw [show (a != b) = false by simp [hab]]
  exact h
theorem OW_eqlTr {x y : Operand} {t t' : TypeId} {k : IntKind} {a b : Int} (hx : ev e x = .int k a) (hy : ev e y = .int k b) (hab : a = b) (h : OW P ops Q rest (upd e d (.bool true)) w) : OW P ops Q (⟨some d, .binOp .eql t x y t', ty, pos, aft, none⟩ :: rest) e w := by
  refine OW_eql hx hy ?_
  rw [show (a == b) = true by simp [hab]]
  exact h
theorem OW_eqlST {x y : Operand} {t t' : TypeId} {a b : ByteArray} (hx : ev e x = .string a) (hy : ev e y = .string b) (hab : a = b) (h : OW P ops Q rest (upd e d (.bool true)) w) : OW P ops Q (⟨some d, .binOp .eql t x y t', ty, pos, aft, none⟩ :: rest) e w := by
  refine OW_eqlS hx hy ?_
  rw [decide_eq_true hab]
  exact h
end
theorem done_ply {w0 w : World} {g : Nat} {l : List UInt8} (h : WPly w0 w g (false, l)) : Calls Try.prog 18 #[.pointer (some ⟨g, 0, none⟩)] w (fun en w' => ∃ A c, en = .returned (.tuple #[.slice A l.length c, .int .i64 0]) ∧ Fresh 5 w w' A c l) := by
  refine h.use fun S hS => (wDone_any w g S _ hS).mono ?_
  rintro en w' ⟨hx, ⟨hf, _⟩ | ⟨_, A, c, he, hf⟩⟩
  · cases hf
  · exact ⟨A, c, he, hf⟩
theorem rpost_to {f : FuncId} {args : Array Value} {w : World} {g : Nat} {S : Nat → Prop} {v v' : Value} {s s' : List UInt8 × Int} (h : Calls Try.prog f args w (RPost w g S v s)) (hv : v = v') (hs : s = s') : Calls Try.prog f args w (RPost w g S v' s') := by
  subst hv; subst hs; exact h
set_option maxHeartbeats 8000000 in
theorem awake4_any (w : World) : Calls Try.prog 29 #[] w (RetV w (.bool true)) := by
  refine calls_of_CW Try.func29 rfl (by simp [Try.ntmps29]) ?_
  rw [Try.ntmps29]
  refine go_WireY (k := ?_)
  refine OW_callC Try.func30 (by kernel_rfl) rfl (newWriter_ply w w (Ext.rfl' w)) rfl ?_
  rintro en w1 ⟨g, rfl, hx1, hR1⟩
  refine ⟨_, rfl, ?_⟩
  refine go_WireY (k := ?_)
  refine OW_callC Try.func35 (by kernel_rfl) rfl (hR1.call (s' := (false, [7])) fun S hR => wByte_any w1 g S _ hR 7) rfl ?_
  rintro en w2 ⟨rfl, hR2⟩
  refine ⟨_, rfl, ?_⟩
  refine go_WireY (k := ?_)
  refine OW_callC Try.func31 (by kernel_rfl) rfl (hR2.call (s' := (false, [7, 0, 0, 0, 0, 0, 0, 1, 2])) fun S hR => by have := wInt_any w2 g S _ hR 258; rwa [show addAll (false, [7]) [putL (u64N 258) 8] = (false, [7, 0, 0, 0, 0, 0, 0, 1, 2]) by decide] at this) rfl ?_
  rintro en w3 ⟨rfl, hR3⟩
  refine ⟨_, rfl, ?_⟩
  refine go_WireY (k := ?_)
  refine OW_callC Try.func36 (by kernel_rfl) rfl (hR3.call (s' := (false, [7, 0, 0, 0, 0, 0, 0, 1, 2, 1])) fun S hR => by have := wFlag_any w3 g S _ hR true; rwa [show addAll (false, [7, 0, 0, 0, 0, 0, 0, 1, 2]) [[if true = true then 1 else 0]] = (false, [7, 0, 0, 0, 0, 0, 0, 1, 2, 1]) by decide] at this) rfl ?_
  rintro en w4 ⟨rfl, hR4⟩
  refine ⟨_, rfl, ?_⟩
  refine go_WireY (k := ?_)
  refine OW_callC Try.func18 (by kernel_rfl) rfl (done_ply hR4) rfl ?_
  rintro en w5 ⟨A5, c5, rfl, hf5⟩
  refine ⟨_, rfl, ?_⟩
  have hb5 : Bs w5 A5 [7, 0, 0, 0, 0, 0, 0, 1, 2, 1] := hf5.bs
  have hc5 : 10 ≤ c5 := hf5.cap
  have hx05 := hR4.to.trans' hf5.ext
  clear hf5
  refine go_WireY (k := ?_)
  refine OW_callC Try.func30 (by kernel_rfl) rfl (newWriter_ply w5 w5 (Ext.rfl' w5)) rfl ?_
  rintro en w6 ⟨g6, rfl, hx6, hR6⟩
  refine ⟨_, rfl, ?_⟩
  refine go_WireY (k := ?_)
  refine OW_callC Try.func38 (by kernel_rfl) rfl (hR6.call (s' := (false, [0, 0, 0, 2, 97, 98])) fun S hR => by have := wText_any w6 g6 S _ hR ⟨#[97, 98]⟩ (by decide); rwa [show addAll (false, []) _ = (false, [0, 0, 0, 2, 97, 98]) by decide] at this) rfl ?_
  rintro en w7 ⟨rfl, hR7⟩
  refine ⟨_, rfl, ?_⟩
  refine go_WireY (k := ?_)
  refine OW_callC Try.func37 (by kernel_rfl) rfl (hR7.call (s' := (false, [0, 0, 0, 2, 97, 98, 0, 0, 0, 0])) fun S hR => by have := wBytes_any w7 g6 S _ hR none [] 0 (Bs.nil _ _) (fun ad h => by cases h) (by decide); rwa [show addAll (false, [0, 0, 0, 2, 97, 98]) _ = (false, [0, 0, 0, 2, 97, 98, 0, 0, 0, 0]) by decide] at this) rfl ?_
  rintro en w8 ⟨rfl, hR8⟩
  refine ⟨_, rfl, ?_⟩
  refine go_WireY (k := ?_)
  refine OW_callC Try.func18 (by kernel_rfl) rfl (done_ply hR8) rfl ?_
  rintro en w9 ⟨A9, c9, rfl, hf9⟩
  refine ⟨_, rfl, ?_⟩
  have hb9 : Bs w9 A9 [0, 0, 0, 2, 97, 98, 0, 0, 0, 0] := hf9.bs
  have hc9 : 10 ≤ c9 := hf9.cap
  have hx59 := hR8.to.trans' hf9.ext
  have hb5' := hb5.ext hx59
  have hx09 := hx05.trans' hx59
  clear hf9
  refine go_WireY (k := ?_)
  refine OW_lit [bv 7, bv 0, bv 0, bv 0, bv 0, bv 0, bv 0, bv 1, bv 2, bv 1] und_bytes info_u8 rfl rfl (by simp [bv, Value.oneCell']) (by decide) ?_
  intro w10 g10 hb10 hg10 hx10
  refine go_WireY (k := ?_)
  refine OW_callV Try.func40 (by kernel_rfl) rfl (same_any w10 A5 (some ⟨g10, 0, none⟩) [7, 0, 0, 0, 0, 0, 0, 1, 2, 1] [7, 0, 0, 0, 0, 0, 0, 1, 2, 1] c5 10 (hb5'.ext hx10) (bs_lit [7, 0, 0, 0, 0, 0, 0, 1, 2, 1] _ hb10 rfl) hc5 (by decide)) rfl ?_
  intro w11 hx11
  rw [show (([7, 0, 0, 0, 0, 0, 0, 1, 2, 1] : List UInt8) == [7, 0, 0, 0, 0, 0, 0, 1, 2, 1]) = true from rfl]
  refine go_WireY (k := ?_)
  refine OW_lit [bv 0, bv 0, bv 0, bv 2, bv 97, bv 98, bv 0, bv 0, bv 0, bv 0] und_bytes info_u8 rfl rfl (by simp [bv, Value.oneCell']) (by decide) ?_
  intro w12 g12 hb12 hg12 hx12
  have hx912 := hx10.trans' (hx11.trans' hx12)
  refine go_WireY (k := ?_)
  refine OW_callV Try.func40 (by kernel_rfl) rfl (same_any w12 A9 (some ⟨g12, 0, none⟩) [0, 0, 0, 2, 97, 98, 0, 0, 0, 0] [0, 0, 0, 2, 97, 98, 0, 0, 0, 0] c9 10 (hb9.ext hx912) (bs_lit [0, 0, 0, 2, 97, 98, 0, 0, 0, 0] _ hb12 rfl) hc9 (by decide)) rfl ?_
  intro w13 hx13
  rw [show (([0, 0, 0, 2, 97, 98, 0, 0, 0, 0] : List UInt8) == [0, 0, 0, 2, 97, 98, 0, 0, 0, 0]) = true from rfl]
  have hx013 := hx09.trans' (hx912.trans' hx13)
  clear hb5 hb5' hb9 hb10 hb12 hx912 hx09 hx05 hx59
  refine go_WireY (k := ?_)
  refine OW_lit [bv 0, bv 0, bv 0, bv 2, bv 97] und_bytes info_u8 rfl rfl (by simp [bv, Value.oneCell']) (by decide) ?_
  intro w14 g14 hb14 hg14 hx14
  refine go_WireY (k := ?_)
  refine OW_callC Try.func32 (by kernel_rfl) rfl (newReader_any w14 (some ⟨g14, 0, none⟩) [0, 0, 0, 2, 97] 5 (bs_lit [0, 0, 0, 2, 97] _ hb14 rfl) (by decide)) rfl ?_
  rintro en w15 ⟨r, rfl, hr15, hx15, hr⟩
  replace hr : RR w15 r (more (fun _ => False) w14 w15) ([0, 0, 0, 2, 97], 0) := hr
  refine ⟨_, rfl, ?_⟩
  refine go_WireY (k := ?_)
  refine OW_lit [bv 1, bv 9] und_bytes info_u8 rfl rfl (by simp [bv, Value.oneCell']) (by decide) ?_
  intro w16 g16 hb16 hg16 hx16
  refine go_WireY (k := ?_)
  refine OW_callC Try.func32 (by kernel_rfl) rfl (newReader_any w16 (some ⟨g16, 0, none⟩) [1, 9] 2 (bs_lit [1, 9] _ hb16 rfl) (by decide)) rfl ?_
  rintro en w17 ⟨s, rfl, hs17, hx17, hs⟩
  replace hs : RR w17 s (more (fun _ => False) w16 w17) ([1, 9], 0) := hs
  refine ⟨_, rfl, ?_⟩
  refine go_WireY (k := ?_)
  refine OW_lit [bv 1, bv 2] und_bytes info_u8 rfl rfl (by simp [bv, Value.oneCell']) (by decide) ?_
  intro w18 g18 hb18 hg18 hx18
  refine go_WireY (k := ?_)
  refine OW_callC Try.func32 (by kernel_rfl) rfl (newReader_any w18 (some ⟨g18, 0, none⟩) [1, 2] 2 (bs_lit [1, 2] _ hb18 rfl) (by decide)) rfl ?_
  rintro en w19 ⟨t, rfl, ht19, hx19, ht⟩
  replace ht : RR w19 t (more (fun _ => False) w18 w19) ([1, 2], 0) := ht
  refine ⟨_, rfl, ?_⟩
  have hrl : r < w15.heap.size := hr.bd _ hr.in_
  have hsl : s < w17.heap.size := hs.bd _ hs.in_
  have htl : t < w19.heap.size := ht.bd _ ht.in_
  have z13 := hx013.size
  have z14 := hx14.size
  have z15 := hx15.size
  have z16 := hx16.size
  have z17 := hx17.size
  have z18 := hx18.size
  have z19 := hx19.size
  have hr19 := hr.ext (hx16.trans' (hx17.trans' (hx18.trans' hx19)))
  have hs19 := hs.ext (hx18.trans' hx19)
  have hx019 := hx013.trans' (hx14.trans' (hx15.trans' (hx16.trans' (hx17.trans' (hx18.trans' hx19)))))
  clear hb14 hb16 hb18 hr hs
  refine go_WireY (k := ?_)
  refine OW_callC Try.func23 (by kernel_rfl) rfl (rText_any w19 r _ _ hr19) rfl ?_
  rintro en w20 ⟨rfl, hr20, hk20⟩
  refine ⟨_, rfl, ?_⟩
  rw [show bytesS ([0, 0, 0, 2, 97], 0) = ([], 40) by decide] at hr20
  rw [show bytesV ([0, 0, 0, 2, 97], 0) = [] by decide]
  have hs20 := hs19.keeps hk20 (fun k hk hh => by rcases hk with hk | hk; exact hk.elim; omega)
  have ht20 := ht.keeps hk20 (fun k hk hh => by rcases hk with hk | hk; exact hk.elim; omega)
  have hx020 := hk20.ext hx019 (fun j hj => by omega)
  refine go_WireY (k := ?_)
  refine OW_callV Try.func27 (by kernel_rfl) rfl (rErr_any w20 r _ _ hr20) rfl ?_
  intro w21 hx21
  refine go_WireY (k := ?_)
  refine OW_callV Try.func28 (by kernel_rfl) rfl (rEnd_any w21 r _ _ (hr20.ext hx21)) rfl ?_
  intro w22 hx22
  rw [show endE ([], 40) = 40 by decide]
  have hx2022 := hx21.trans' hx22
  have z2 := hx2022.size
  have hx022 := hx020.trans' hx2022
  have hs22 := hs20.ext hx2022
  have ht22 := ht20.ext hx2022
  refine go_WireY (k := ?_)
  refine OW_callC Try.func21 (by kernel_rfl) rfl (rpost_to (v' := .bool true) (s' := ([9], 0)) (rFlag_any w22 s _ _ hs22) (congrArg _ (by decide)) (by decide)) rfl ?_
  rintro en w23 ⟨rfl, hs23, hk23⟩
  refine ⟨_, rfl, ?_⟩
  have ht23 := ht22.keeps hk23 (fun k hk hh => by rcases hk with hk | hk; exact hk.elim; omega)
  have hx023 := hk23.ext hx022 (fun j hj => by omega)
  refine go_WireY (k := ?_)
  refine OW_callC Try.func21 (by kernel_rfl) rfl (rpost_to (v' := .bool false) (s' := ([], 40)) (rFlag_any w23 s _ _ hs23) (congrArg _ (by decide)) (by decide)) rfl ?_
  rintro en w24 ⟨rfl, hs24, hk24⟩
  refine ⟨_, rfl, ?_⟩
  have ht24 := ht23.keeps hk24 (fun k hk hh => by rcases hk with hk | hk; exact hk.elim; omega)
  have hx024 := hk24.ext hx023 (fun j hj => by omega)
  refine go_WireY (k := ?_)
  refine OW_callV Try.func27 (by kernel_rfl) rfl (rErr_any w24 s _ _ hs24) rfl ?_
  intro w25 hx25
  have hx025 := hx024.trans' hx25
  refine go_WireY (k := ?_)
  refine OW_callC Try.func19 (by kernel_rfl) rfl (rpost_to (v' := bv 1) (s' := ([2], 0)) (rByte_any w25 t _ _ (ht24.ext hx25)) (congrArg _ (by decide)) (by decide)) rfl ?_
  rintro en w26 ⟨rfl, ht26, hk26⟩
  refine ⟨_, rfl, ?_⟩
  have hx026 := hk26.ext hx025 (fun j hj => by omega)
  refine go_WireY (k := ?_)
  refine OW_callV Try.func28 (by kernel_rfl) rfl (rEnd_any w26 t _ _ ht26) rfl ?_
  intro w27 hx27
  rw [show endE ([2], 0) = 40 by decide]
  have ht27 := ht26.ext hx27
  refine go_WireY (k := ?_)
  refine OW_callV Try.func27 (by kernel_rfl) rfl (rErr_any w27 t _ _ ht27) rfl ?_
  intro w28 hx28
  have ht28 := ht27.ext hx28
  refine go_WireY (k := ?_)
  refine OW_callV Try.func26 (by kernel_rfl) rfl (rLeft_any w28 t _ _ ht28) rfl ?_
  intro w29 hx29
  refine go_WireY (k := ?_)
  exact bodyE_ret1 rfl (.bool true) rfl ⟨rfl, hx026.trans' (hx27.trans' (hx28.trans' hx29))⟩
end Go.Proofs.Ythhphmbhlddihaa
