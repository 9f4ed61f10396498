/- Several texts in one, as they stand in wip/src. -/
import Derived.Test.YtdpomchhbbopbaaGr12
/- Walks: the chapter's examples of wire. -/
namespace Go.Proofs.Ytdpomchhbbopbaa
open Go Go.RowKit
set_option linter.unusedVariables false
set_option maxRecDepth 4000
theorem go_WireY {A B : Prop} (h : Held B → A := by
  intro hEnd
  repeat (first | refine OW_neqF rfl rfl rfl ?_ | refine OW_eqlTr rfl rfl rfl ?_ | refine OW_eqlST rfl rfl rfl ?_ | refine OW_moveV (.int _ _) rfl ?_ | refine OW_moveV (.slice _ _ _) rfl ?_ | refine OW_moveV (.bool _) rfl ?_ | refine OW_moveV (.pointer _) rfl ?_ | refine OW_moveV (.string _) rfl ?_ | refine OW_moveV (.agg _) rfl ?_ | refine OW_moveV (.tuple _) rfl ?_ | refine OW_nil ?_ | refine thenE_normal ?_ | refine CW_seq ?_ | refine CW_region (by kernel_rfl) ?_ | refine OW_assignV (.int _ _) rfl ?_ | refine OW_assignV (.slice _ _ _) rfl ?_ | refine OW_assignV (.bool _) rfl ?_ | refine OW_assignV (.pointer _) rfl ?_ | refine OW_assignV (.string _) rfl ?_ | refine OW_assignV (.agg _) rfl ?_ | refine OW_assignV (.tuple _) rfl ?_ | refine OW_addI rfl rfl (by omega) ?_ | refine OW_subI rfl rfl (by omega) ?_ | refine OW_mulI rfl rfl (by omega) ?_ | refine OW_lss rfl rfl ?_ | refine OW_extract rfl rfl ?_ | refine OW_gtr rfl rfl ?_ | refine OW_leq rfl rfl ?_ | refine OW_geq rfl rfl ?_ | refine OW_eql rfl rfl ?_ | refine OW_neq rfl rfl ?_ | refine OW_not rfl ?_ | refine OW_pickT rfl _ rfl ?_ | refine OW_pickF rfl (.bool _) rfl ?_ | refine OW_pickB rfl rfl rfl ?_ | refine OW_move ?_ | refine OW_assign ?_ | refine OW_pass rfl ?_ | refine OW_take rfl ?_ | refine OW_lenS (by first | with_reducible exact und_bytes | with_reducible exact und_bytess) rfl ?_ | refine OW_convInt (by first | with_reducible exact und_u8 | with_reducible exact und_u64 | with_reducible exact und_int | with_reducible exact und_u32) (by first | with_reducible exact und_u8 | with_reducible exact und_u64 | with_reducible exact und_int | with_reducible exact und_u32) rfl ?_ | refine OW_add rfl rfl ?_ | refine OW_sub rfl rfl ?_ | refine OW_mul rfl rfl ?_ | refine OW_min2 rfl rfl ?_ | refine OW_max2 rfl rfl ?_ | refine OW_neg rfl ?_ | refine CW_block ?_ | refine CW_condT rfl ?_ | refine CW_condF rfl ?_ | refine CW_exit ?_ | refine CW_ret ?_ | refine CW_skip ?_ | refine LW_seq ?_ | refine LW_regC ?_ | refine LW_condC ?_ | refine LW_regF ?_ | refine LW_condF ?_ | refine FW_seq ?_ | refine FW_region (by kernel_rfl) ?_ | refine FW_block ?_ | refine FW_condT rfl ?_ | refine FW_condF rfl ?_ | refine FW_exit ?_ | refine FW_ret ?_ | refine FW_skip ?_ | refine LW_ret ?_ | refine LW_skip ?_ | refine thenE_exit ?_ | refine thenE_ret ?_ | refine inBlockE_normal ?_ | refine inBlockE_same ?_ | refine inBlockE_ret ?_ | refine inBlockE_ne (by rfl) ?_ | refine OW_eqlB (by with_reducible exact und_bool) rfl rfl ?_ | refine OW_neqB (by with_reducible exact und_bool) rfl rfl ?_ | refine OW_idxS (by with_reducible exact und_bytes) one_u8 rfl rfl _ rfl (by omega) ?_ | refine OW_idxS (by with_reducible exact und_bytess) one_bytes rfl rfl _ rfl (by omega) ?_ | refine OW_load1 (by first | with_reducible exact one_u8 | with_reducible exact one_bytes) rfl _ (by assumption) ?_ | refine OW_load1 one_int rfl _ (by assumption) ?_)
  exact hEnd.out) (k : B) : A := h ⟨k⟩
section
variable {P : Program} {ops : Array Oper} {Q : Exit → (Nat → Value) → World → Prop} {rest : List Oper} {e : Nat → Value} {w : World} {d : Tmp} {ty : TypeId} {pos : String} {aft : Array Edge}
theorem OW_neqF {x y : Operand} {t t' : TypeId} {k : IntKind} {a b : Int} (hx : ev e x = .int k a) (hy : ev e y = .int k b) (hab : a = b) (h : OW P ops Q rest (upd e d (.bool false)) w) : OW P ops Q (⟨some d, .binOp .neq t x y t', ty, pos, aft, none⟩ :: rest) e w := by
  refine OW_neq hx hy ?_
  rw [show (a != b) = false by simp [hab]]
  exact h
theorem OW_eqlTr {x y : Operand} {t t' : TypeId} {k : IntKind} {a b : Int} (hx : ev e x = .int k a) (hy : ev e y = .int k b) (hab : a = b) (h : OW P ops Q rest (upd e d (.bool true)) w) : OW P ops Q (⟨some d, .binOp .eql t x y t', ty, pos, aft, none⟩ :: rest) e w := by
  refine OW_eql hx hy ?_
  rw [show (a == b) = true by simp [hab]]
  exact h
theorem OW_eqlST {x y : Operand} {t t' : TypeId} {a b : ByteArray} (hx : ev e x = .string a) (hy : ev e y = .string b) (hab : a = b) (h : OW P ops Q rest (upd e d (.bool true)) w) : OW P ops Q (⟨some d, .binOp .eql t x y t', ty, pos, aft, none⟩ :: rest) e w := by
  refine OW_eqlS hx hy ?_
  rw [decide_eq_true hab]
  exact h
end
theorem done_ply {w0 w : World} {g : Nat} {l : List UInt8} (h : WPly w0 w g (false, l)) : Calls Try.prog 32 #[.pointer (some ⟨g, 0, none⟩)] w (fun en w' => ∃ A c, en = .returned (.tuple #[.slice A l.length c, .int .i64 0]) ∧ Fresh 5 w w' A c l) := by
  refine h.use fun S hS => (wDone_any w g S _ hS).mono ?_
  rintro en w' ⟨hx, ⟨hf, _⟩ | ⟨_, A, c, he, hf⟩⟩
  · cases hf
  · exact ⟨A, c, he, hf⟩
theorem rpost_to {f : FuncId} {args : Array Value} {w : World} {g : Nat} {S : Nat → Prop} {v v' : Value} {s s' : List UInt8 × Int} (h : Calls Try.prog f args w (RPost w g S v s)) (hv : v = v') (hs : s = s') : Calls Try.prog f args w (RPost w g S v' s') := by
  subst hv; subst hs; exact h
set_option maxHeartbeats 8000000 in
theorem awake4_any (w : World) : Calls Try.prog 46 #[] w (RetV w (.bool true)) := by
  refine calls_of_CW Try.func46 rfl (by simp [Try.ntmps46]) ?_
  rw [Try.ntmps46]
  refine go_WireY (k := ?_)
  refine OW_callC Try.func47 (by kernel_rfl) rfl (newWriter_ply w w (Ext.rfl' w)) rfl ?_
  rintro en w1 ⟨g, rfl, hx1, hR1⟩
  refine ⟨_, rfl, ?_⟩
  refine go_WireY (k := ?_)
  refine OW_callC Try.func52 (by kernel_rfl) rfl (hR1.call (s' := (false, [7])) fun S hR => wByte_any w1 g S _ hR 7) rfl ?_
  rintro en w2 ⟨rfl, hR2⟩
  refine ⟨_, rfl, ?_⟩
  refine go_WireY (k := ?_)
  refine OW_callC Try.func48 (by kernel_rfl) rfl (hR2.call (s' := (false, [7, 0, 0, 0, 0, 0, 0, 1, 2])) fun S hR => by have := wInt_any w2 g S _ hR 258; rwa [show addAll (false, [7]) [putL (u64N 258) 8] = (false, [7, 0, 0, 0, 0, 0, 0, 1, 2]) by decide] at this) rfl ?_
  rintro en w3 ⟨rfl, hR3⟩
  refine ⟨_, rfl, ?_⟩
  refine go_WireY (k := ?_)
  refine OW_callC Try.func53 (by kernel_rfl) rfl (hR3.call (s' := (false, [7, 0, 0, 0, 0, 0, 0, 1, 2, 1])) fun S hR => by have := wFlag_any w3 g S _ hR true; rwa [show addAll (false, [7, 0, 0, 0, 0, 0, 0, 1, 2]) [[if true = true then 1 else 0]] = (false, [7, 0, 0, 0, 0, 0, 0, 1, 2, 1]) by decide] at this) rfl ?_
  rintro en w4 ⟨rfl, hR4⟩
  refine ⟨_, rfl, ?_⟩
  refine go_WireY (k := ?_)
  refine OW_callC Try.func32 (by kernel_rfl) rfl (done_ply hR4) rfl ?_
  rintro en w5 ⟨A5, c5, rfl, hf5⟩
  refine ⟨_, rfl, ?_⟩
  have hb5 : Bs w5 A5 [7, 0, 0, 0, 0, 0, 0, 1, 2, 1] := hf5.bs
  have hc5 : 10 ≤ c5 := hf5.cap
  have hx05 := hR4.to.trans' hf5.ext
  clear hf5
  refine go_WireY (k := ?_)
  refine OW_callC Try.func47 (by kernel_rfl) rfl (newWriter_ply w5 w5 (Ext.rfl' w5)) rfl ?_
  rintro en w6 ⟨g6, rfl, hx6, hR6⟩
  refine ⟨_, rfl, ?_⟩
  refine go_WireY (k := ?_)
  refine OW_callC Try.func55 (by kernel_rfl) rfl (hR6.call (s' := (false, [0, 0, 0, 2, 97, 98])) fun S hR => by have := wText_any w6 g6 S _ hR ⟨#[97, 98]⟩ (by decide); rwa [show addAll (false, []) _ = (false, [0, 0, 0, 2, 97, 98]) by decide] at this) rfl ?_
  rintro en w7 ⟨rfl, hR7⟩
  refine ⟨_, rfl, ?_⟩
  refine go_WireY (k := ?_)
  refine OW_callC Try.func54 (by kernel_rfl) rfl (hR7.call (s' := (false, [0, 0, 0, 2, 97, 98, 0, 0, 0, 0])) fun S hR => by have := wBytes_any w7 g6 S _ hR none [] 0 (Bs.nil _ _) (fun ad h => by cases h) (by decide); rwa [show addAll (false, [0, 0, 0, 2, 97, 98]) _ = (false, [0, 0, 0, 2, 97, 98, 0, 0, 0, 0]) by decide] at this) rfl ?_
  rintro en w8 ⟨rfl, hR8⟩
  refine ⟨_, rfl, ?_⟩
  refine go_WireY (k := ?_)
  refine OW_callC Try.func32 (by kernel_rfl) rfl (done_ply hR8) rfl ?_
  rintro en w9 ⟨A9, c9, rfl, hf9⟩
  refine ⟨_, rfl, ?_⟩
  have hb9 : Bs w9 A9 [0, 0, 0, 2, 97, 98, 0, 0, 0, 0] := hf9.bs
  have hc9 : 10 ≤ c9 := hf9.cap
  have hx59 := hR8.to.trans' hf9.ext
  have hb5' := hb5.ext hx59
  have hx09 := hx05.trans' hx59
  clear hf9
  refine go_WireY (k := ?_)
  refine OW_lit [bv 7, bv 0, bv 0, bv 0, bv 0, bv 0, bv 0, bv 1, bv 2, bv 1] und_bytes info_u8 rfl rfl (by simp [bv, Value.oneCell']) (by decide) ?_
  intro w10 g10 hb10 hg10 hx10
  refine go_WireY (k := ?_)
  refine OW_callV Try.func57 (by kernel_rfl) rfl (same_any w10 A5 (some ⟨g10, 0, none⟩) [7, 0, 0, 0, 0, 0, 0, 1, 2, 1] [7, 0, 0, 0, 0, 0, 0, 1, 2, 1] c5 10 (hb5'.ext hx10) (bs_lit [7, 0, 0, 0, 0, 0, 0, 1, 2, 1] _ hb10 rfl) hc5 (by decide)) rfl ?_
  intro w11 hx11
  rw [show (([7, 0, 0, 0, 0, 0, 0, 1, 2, 1] : List UInt8) == [7, 0, 0, 0, 0, 0, 0, 1, 2, 1]) = true from rfl]
  refine go_WireY (k := ?_)
  refine OW_lit [bv 0, bv 0, bv 0, bv 2, bv 97, bv 98, bv 0, bv 0, bv 0, bv 0] und_bytes info_u8 rfl rfl (by simp [bv, Value.oneCell']) (by decide) ?_
  intro w12 g12 hb12 hg12 hx12
  have hx912 := hx10.trans' (hx11.trans' hx12)
  refine go_WireY (k := ?_)
  refine OW_callV Try.func57 (by kernel_rfl) rfl (same_any w12 A9 (some ⟨g12, 0, none⟩) [0, 0, 0, 2, 97, 98, 0, 0, 0, 0] [0, 0, 0, 2, 97, 98, 0, 0, 0, 0] c9 10 (hb9.ext hx912) (bs_lit [0, 0, 0, 2, 97, 98, 0, 0, 0, 0] _ hb12 rfl) hc9 (by decide)) rfl ?_
  intro w13 hx13
  rw [show (([0, 0, 0, 2, 97, 98, 0, 0, 0, 0] : List UInt8) == [0, 0, 0, 2, 97, 98, 0, 0, 0, 0]) = true from rfl]
  have hx013 := hx09.trans' (hx912.trans' hx13)
  clear hb5 hb5' hb9 hb10 hb12 hx912 hx09 hx05 hx59
  refine go_WireY (k := ?_)
  refine OW_lit [bv 0, bv 0, bv 0, bv 2, bv 97] und_bytes info_u8 rfl rfl (by simp [bv, Value.oneCell']) (by decide) ?_
  intro w14 g14 hb14 hg14 hx14
  refine go_WireY (k := ?_)
  refine OW_callC Try.func49 (by kernel_rfl) rfl (newReader_any w14 (some ⟨g14, 0, none⟩) [0, 0, 0, 2, 97] 5 (bs_lit [0, 0, 0, 2, 97] _ hb14 rfl) (by decide)) rfl ?_
  rintro en w15 ⟨r, rfl, hr15, hx15, hr⟩
  replace hr : RR w15 r (more (fun _ => False) w14 w15) ([0, 0, 0, 2, 97], 0) := hr
  refine ⟨_, rfl, ?_⟩
  refine go_WireY (k := ?_)
  refine OW_lit [bv 1, bv 9] und_bytes info_u8 rfl rfl (by simp [bv, Value.oneCell']) (by decide) ?_
  intro w16 g16 hb16 hg16 hx16
  refine go_WireY (k := ?_)
  refine OW_callC Try.func49 (by kernel_rfl) rfl (newReader_any w16 (some ⟨g16, 0, none⟩) [1, 9] 2 (bs_lit [1, 9] _ hb16 rfl) (by decide)) rfl ?_
  rintro en w17 ⟨s, rfl, hs17, hx17, hs⟩
  replace hs : RR w17 s (more (fun _ => False) w16 w17) ([1, 9], 0) := hs
  refine ⟨_, rfl, ?_⟩
  refine go_WireY (k := ?_)
  refine OW_lit [bv 1, bv 2] und_bytes info_u8 rfl rfl (by simp [bv, Value.oneCell']) (by decide) ?_
  intro w18 g18 hb18 hg18 hx18
  refine go_WireY (k := ?_)
  refine OW_callC Try.func49 (by kernel_rfl) rfl (newReader_any w18 (some ⟨g18, 0, none⟩) [1, 2] 2 (bs_lit [1, 2] _ hb18 rfl) (by decide)) rfl ?_
  rintro en w19 ⟨t, rfl, ht19, hx19, ht⟩
  replace ht : RR w19 t (more (fun _ => False) w18 w19) ([1, 2], 0) := ht
  refine ⟨_, rfl, ?_⟩
  have hrl : r < w15.heap.size := hr.bd _ hr.in_
  have hsl : s < w17.heap.size := hs.bd _ hs.in_
  have htl : t < w19.heap.size := ht.bd _ ht.in_
  have z13 := hx013.size
  have z14 := hx14.size
  have z15 := hx15.size
  have z16 := hx16.size
  have z17 := hx17.size
  have z18 := hx18.size
  have z19 := hx19.size
  have hr19 := hr.ext (hx16.trans' (hx17.trans' (hx18.trans' hx19)))
  have hs19 := hs.ext (hx18.trans' hx19)
  have hx019 := hx013.trans' (hx14.trans' (hx15.trans' (hx16.trans' (hx17.trans' (hx18.trans' hx19)))))
  clear hb14 hb16 hb18 hr hs
  refine go_WireY (k := ?_)
  refine OW_callC Try.func37 (by kernel_rfl) rfl (rText_any w19 r _ _ hr19) rfl ?_
  rintro en w20 ⟨rfl, hr20, hk20⟩
  refine ⟨_, rfl, ?_⟩
  rw [show bytesS ([0, 0, 0, 2, 97], 0) = ([], 40) by decide] at hr20
  rw [show bytesV ([0, 0, 0, 2, 97], 0) = [] by decide]
  have hs20 := hs19.keeps hk20 (fun k hk hh => by rcases hk with hk | hk; exact hk.elim; omega)
  have ht20 := ht.keeps hk20 (fun k hk hh => by rcases hk with hk | hk; exact hk.elim; omega)
  have hx020 := hk20.ext hx019 (fun j hj => by omega)
  refine go_WireY (k := ?_)
  refine OW_callV Try.func41 (by kernel_rfl) rfl (rErr_any w20 r _ _ hr20) rfl ?_
  intro w21 hx21
  refine go_WireY (k := ?_)
  refine OW_callV Try.func42 (by kernel_rfl) rfl (rEnd_any w21 r _ _ (hr20.ext hx21)) rfl ?_
  intro w22 hx22
  rw [show endE ([], 40) = 40 by decide]
  have hx2022 := hx21.trans' hx22
  have z2 := hx2022.size
  have hx022 := hx020.trans' hx2022
  have hs22 := hs20.ext hx2022
  have ht22 := ht20.ext hx2022
  refine go_WireY (k := ?_)
  refine OW_callC Try.func35 (by kernel_rfl) rfl (rpost_to (v' := .bool true) (s' := ([9], 0)) (rFlag_any w22 s _ _ hs22) (congrArg _ (by decide)) (by decide)) rfl ?_
  rintro en w23 ⟨rfl, hs23, hk23⟩
  refine ⟨_, rfl, ?_⟩
  have ht23 := ht22.keeps hk23 (fun k hk hh => by rcases hk with hk | hk; exact hk.elim; omega)
  have hx023 := hk23.ext hx022 (fun j hj => by omega)
  refine go_WireY (k := ?_)
  refine OW_callC Try.func35 (by kernel_rfl) rfl (rpost_to (v' := .bool false) (s' := ([], 40)) (rFlag_any w23 s _ _ hs23) (congrArg _ (by decide)) (by decide)) rfl ?_
  rintro en w24 ⟨rfl, hs24, hk24⟩
  refine ⟨_, rfl, ?_⟩
  have ht24 := ht23.keeps hk24 (fun k hk hh => by rcases hk with hk | hk; exact hk.elim; omega)
  have hx024 := hk24.ext hx023 (fun j hj => by omega)
  refine go_WireY (k := ?_)
  refine OW_callV Try.func41 (by kernel_rfl) rfl (rErr_any w24 s _ _ hs24) rfl ?_
  intro w25 hx25
  have hx025 := hx024.trans' hx25
  refine go_WireY (k := ?_)
  refine OW_callC Try.func33 (by kernel_rfl) rfl (rpost_to (v' := bv 1) (s' := ([2], 0)) (rByte_any w25 t _ _ (ht24.ext hx25)) (congrArg _ (by decide)) (by decide)) rfl ?_
  rintro en w26 ⟨rfl, ht26, hk26⟩
  refine ⟨_, rfl, ?_⟩
  have hx026 := hk26.ext hx025 (fun j hj => by omega)
  refine go_WireY (k := ?_)
  refine OW_callV Try.func42 (by kernel_rfl) rfl (rEnd_any w26 t _ _ ht26) rfl ?_
  intro w27 hx27
  rw [show endE ([2], 0) = 40 by decide]
  have ht27 := ht26.ext hx27
  refine go_WireY (k := ?_)
  refine OW_callV Try.func41 (by kernel_rfl) rfl (rErr_any w27 t _ _ ht27) rfl ?_
  intro w28 hx28
  have ht28 := ht27.ext hx28
  refine go_WireY (k := ?_)
  refine OW_callV Try.func40 (by kernel_rfl) rfl (rLeft_any w28 t _ _ ht28) rfl ?_
  intro w29 hx29
  refine go_WireY (k := ?_)
  exact bodyE_ret1 rfl (.bool true) rfl ⟨rfl, hx026.trans' (hx27.trans' (hx28.trans' hx29))⟩
end Go.Proofs.Ytdpomchhbbopbaa

/- Walks: a reply is printed. -/
namespace Go.Proofs.Ytdpomchhbbopbaa
open Go Go.RowKit
set_option linter.unusedVariables false
set_option maxRecDepth 4000
theorem go_Rep2 {A B : Prop} (h : Held B → A := by
  intro hEnd
  repeat (first | refine OW_fieldF fld_P0 rfl ?_ | refine OW_fieldF fld_P1 rfl ?_ | refine OW_fieldF fld_P2 rfl ?_ | refine OW_fieldF fld_P3 rfl ?_ | refine OW_fieldF fld_P4 rfl ?_ | refine OW_lenL und_string rfl ?_ | refine OW_lenS und_strs rfl ?_ | refine OW_idxS und_strs one_str rfl rfl _ rfl (by omega) ?_ | refine OW_fieldF fld_L0 rfl ?_ | refine OW_fieldF fld_L1 rfl ?_ | refine OW_fieldF fld_L2 rfl ?_ | refine OW_fieldF fld_L3 rfl ?_ | refine OW_fieldF fld_L4 rfl ?_ | refine OW_fieldF fld_L5 rfl ?_ | refine OW_fieldF fld_L6 rfl ?_ | refine OW_fieldF fld_L7 rfl ?_ | refine OW_fieldBL fldo_L8 rfl ?_ | refine OW_loadN agg_Tag rfl (by apply_assumption; assumption) ?_ | refine OW_moveV (.int _ _) rfl ?_ | refine OW_moveV (.slice _ _ _) rfl ?_ | refine OW_moveV (.bool _) rfl ?_ | refine OW_moveV (.pointer _) rfl ?_ | refine OW_moveV (.string _) rfl ?_ | refine OW_moveV (.agg _) rfl ?_ | refine OW_moveV (.tuple _) rfl ?_ | refine OW_nil ?_ | refine thenE_normal ?_ | refine CW_seq ?_ | refine CW_region (by kernel_rfl) ?_ | refine OW_assignV (.int _ _) rfl ?_ | refine OW_assignV (.slice _ _ _) rfl ?_ | refine OW_assignV (.bool _) rfl ?_ | refine OW_assignV (.pointer _) rfl ?_ | refine OW_assignV (.string _) rfl ?_ | refine OW_assignV (.agg _) rfl ?_ | refine OW_assignV (.tuple _) rfl ?_ | refine OW_addI rfl rfl (by omega) ?_ | refine OW_subI rfl rfl (by omega) ?_ | refine OW_mulI rfl rfl (by omega) ?_ | refine OW_lss rfl rfl ?_ | refine OW_extract rfl rfl ?_ | refine OW_gtr rfl rfl ?_ | refine OW_leq rfl rfl ?_ | refine OW_geq rfl rfl ?_ | refine OW_eql rfl rfl ?_ | refine OW_neq rfl rfl ?_ | refine OW_not rfl ?_ | refine OW_pickT rfl _ rfl ?_ | refine OW_pickF rfl (.bool _) rfl ?_ | refine OW_pickB rfl rfl rfl ?_ | refine OW_move ?_ | refine OW_assign ?_ | refine OW_pass rfl ?_ | refine OW_take rfl ?_ | refine OW_lenS (by first | with_reducible exact und_bytes | with_reducible exact und_bytess) rfl ?_ | refine OW_convInt (by first | with_reducible exact und_u8 | with_reducible exact und_u64 | with_reducible exact und_int | with_reducible exact und_u32) (by first | with_reducible exact und_u8 | with_reducible exact und_u64 | with_reducible exact und_int | with_reducible exact und_u32) rfl ?_ | refine OW_add rfl rfl ?_ | refine OW_sub rfl rfl ?_ | refine OW_mul rfl rfl ?_ | refine OW_min2 rfl rfl ?_ | refine OW_max2 rfl rfl ?_ | refine OW_neg rfl ?_ | refine CW_block ?_ | refine CW_condT rfl ?_ | refine CW_condF rfl ?_ | refine CW_exit ?_ | refine CW_ret ?_ | refine CW_skip ?_ | refine LW_seq ?_ | refine LW_regC ?_ | refine LW_condC ?_ | refine LW_regF ?_ | refine LW_condF ?_ | refine FW_seq ?_ | refine FW_region (by kernel_rfl) ?_ | refine FW_block ?_ | refine FW_condT rfl ?_ | refine FW_condF rfl ?_ | refine FW_exit ?_ | refine FW_ret ?_ | refine FW_skip ?_ | refine LW_ret ?_ | refine LW_skip ?_ | refine thenE_exit ?_ | refine thenE_ret ?_ | refine inBlockE_normal ?_ | refine inBlockE_same ?_ | refine inBlockE_ret ?_ | refine inBlockE_ne (by rfl) ?_ | refine OW_eqlB (by with_reducible exact und_bool) rfl rfl ?_ | refine OW_neqB (by with_reducible exact und_bool) rfl rfl ?_ | refine OW_idxS (by with_reducible exact und_bytes) one_u8 rfl rfl _ rfl (by omega) ?_ | refine OW_idxS (by with_reducible exact und_bytess) one_bytes rfl rfl _ rfl (by omega) ?_ | refine OW_load1 (by first | with_reducible exact one_u8 | with_reducible exact one_bytes) rfl _ (by assumption) ?_ | refine OW_load1 (by first | with_reducible exact one_int | with_reducible exact one_str | with_reducible exact one_strs | with_reducible exact one_errno) rfl _ (by assumption) ?_)
  exact hEnd.out) (k : B) : A := h ⟨k⟩
theorem oy_Rep2 {A B : Prop} (h : Held B → A := by
  intro hEnd
  repeat (first
    | refine OY_done ?_
    | (apply OY_p _ rfl
       · intro wd
         (first | refine OW_fieldF fld_P0 rfl ?_ | refine OW_fieldF fld_P1 rfl ?_ | refine OW_fieldF fld_P2 rfl ?_ | refine OW_fieldF fld_P3 rfl ?_ | refine OW_fieldF fld_P4 rfl ?_ | refine OW_lenL und_string rfl ?_ | refine OW_lenS und_strs rfl ?_ | refine OW_idxS und_strs one_str rfl rfl _ rfl (by omega) ?_ | refine OW_fieldF fld_L0 rfl ?_ | refine OW_fieldF fld_L1 rfl ?_ | refine OW_fieldF fld_L2 rfl ?_ | refine OW_fieldF fld_L3 rfl ?_ | refine OW_fieldF fld_L4 rfl ?_ | refine OW_fieldF fld_L5 rfl ?_ | refine OW_fieldF fld_L6 rfl ?_ | refine OW_fieldF fld_L7 rfl ?_ | refine OW_fieldBL fldo_L8 rfl ?_ | refine OW_loadN agg_Tag rfl (by apply_assumption; assumption) ?_ | refine OW_moveV (.int _ _) rfl ?_ | refine OW_moveV (.slice _ _ _) rfl ?_ | refine OW_moveV (.bool _) rfl ?_ | refine OW_moveV (.pointer _) rfl ?_ | refine OW_moveV (.string _) rfl ?_ | refine OW_moveV (.agg _) rfl ?_ | refine OW_moveV (.tuple _) rfl ?_ | refine OW_nil ?_ | refine thenE_normal ?_ | refine CW_seq ?_ | refine CW_region (by kernel_rfl) ?_ | refine OW_assignV (.int _ _) rfl ?_ | refine OW_assignV (.slice _ _ _) rfl ?_ | refine OW_assignV (.bool _) rfl ?_ | refine OW_assignV (.pointer _) rfl ?_ | refine OW_assignV (.string _) rfl ?_ | refine OW_assignV (.agg _) rfl ?_ | refine OW_assignV (.tuple _) rfl ?_ | refine OW_addI rfl rfl (by omega) ?_ | refine OW_subI rfl rfl (by omega) ?_ | refine OW_mulI rfl rfl (by omega) ?_ | refine OW_lss rfl rfl ?_ | refine OW_extract rfl rfl ?_ | refine OW_gtr rfl rfl ?_ | refine OW_leq rfl rfl ?_ | refine OW_geq rfl rfl ?_ | refine OW_eql rfl rfl ?_ | refine OW_neq rfl rfl ?_ | refine OW_not rfl ?_ | refine OW_pickT rfl _ rfl ?_ | refine OW_pickF rfl (.bool _) rfl ?_ | refine OW_pickB rfl rfl rfl ?_ | refine OW_move ?_ | refine OW_assign ?_ | refine OW_pass rfl ?_ | refine OW_take rfl ?_ | refine OW_lenS (by first | with_reducible exact und_bytes | with_reducible exact und_bytess) rfl ?_ | refine OW_convInt (by first | with_reducible exact und_u8 | with_reducible exact und_u64 | with_reducible exact und_int | with_reducible exact und_u32) (by first | with_reducible exact und_u8 | with_reducible exact und_u64 | with_reducible exact und_int | with_reducible exact und_u32) rfl ?_ | refine OW_add rfl rfl ?_ | refine OW_sub rfl rfl ?_ | refine OW_mul rfl rfl ?_ | refine OW_min2 rfl rfl ?_ | refine OW_max2 rfl rfl ?_ | refine OW_neg rfl ?_ | refine CW_block ?_ | refine CW_condT rfl ?_ | refine CW_condF rfl ?_ | refine CW_exit ?_ | refine CW_ret ?_ | refine CW_skip ?_ | refine LW_seq ?_ | refine LW_regC ?_ | refine LW_condC ?_ | refine LW_regF ?_ | refine LW_condF ?_ | refine FW_seq ?_ | refine FW_region (by kernel_rfl) ?_ | refine FW_block ?_ | refine FW_condT rfl ?_ | refine FW_condF rfl ?_ | refine FW_exit ?_ | refine FW_ret ?_ | refine FW_skip ?_ | refine LW_ret ?_ | refine LW_skip ?_ | refine thenE_exit ?_ | refine thenE_ret ?_ | refine inBlockE_normal ?_ | refine inBlockE_same ?_ | refine inBlockE_ret ?_ | refine inBlockE_ne (by rfl) ?_ | refine OW_eqlB (by with_reducible exact und_bool) rfl rfl ?_ | refine OW_neqB (by with_reducible exact und_bool) rfl rfl ?_ | refine OW_idxS (by with_reducible exact und_bytes) one_u8 rfl rfl _ rfl (by omega) ?_ | refine OW_idxS (by with_reducible exact und_bytess) one_bytes rfl rfl _ rfl (by omega) ?_ | refine OW_load1 (by first | with_reducible exact one_u8 | with_reducible exact one_bytes) rfl _ (by assumption) ?_ | refine OW_load1 (by first | with_reducible exact one_int | with_reducible exact one_str | with_reducible exact one_strs | with_reducible exact one_errno) rfl _ (by assumption) ?_)
         refine OW_nil ?_
         exact stay_mk _ _ _ _)
    | (apply OY_q _ rfl
       · intro wd hwd
         (first | refine OW_fieldF fld_P0 rfl ?_ | refine OW_fieldF fld_P1 rfl ?_ | refine OW_fieldF fld_P2 rfl ?_ | refine OW_fieldF fld_P3 rfl ?_ | refine OW_fieldF fld_P4 rfl ?_ | refine OW_lenL und_string rfl ?_ | refine OW_lenS und_strs rfl ?_ | refine OW_idxS und_strs one_str rfl rfl _ rfl (by omega) ?_ | refine OW_fieldF fld_L0 rfl ?_ | refine OW_fieldF fld_L1 rfl ?_ | refine OW_fieldF fld_L2 rfl ?_ | refine OW_fieldF fld_L3 rfl ?_ | refine OW_fieldF fld_L4 rfl ?_ | refine OW_fieldF fld_L5 rfl ?_ | refine OW_fieldF fld_L6 rfl ?_ | refine OW_fieldF fld_L7 rfl ?_ | refine OW_fieldBL fldo_L8 rfl ?_ | refine OW_loadN agg_Tag rfl (by apply_assumption; assumption) ?_ | refine OW_moveV (.int _ _) rfl ?_ | refine OW_moveV (.slice _ _ _) rfl ?_ | refine OW_moveV (.bool _) rfl ?_ | refine OW_moveV (.pointer _) rfl ?_ | refine OW_moveV (.string _) rfl ?_ | refine OW_moveV (.agg _) rfl ?_ | refine OW_moveV (.tuple _) rfl ?_ | refine OW_nil ?_ | refine thenE_normal ?_ | refine CW_seq ?_ | refine CW_region (by kernel_rfl) ?_ | refine OW_assignV (.int _ _) rfl ?_ | refine OW_assignV (.slice _ _ _) rfl ?_ | refine OW_assignV (.bool _) rfl ?_ | refine OW_assignV (.pointer _) rfl ?_ | refine OW_assignV (.string _) rfl ?_ | refine OW_assignV (.agg _) rfl ?_ | refine OW_assignV (.tuple _) rfl ?_ | refine OW_addI rfl rfl (by omega) ?_ | refine OW_subI rfl rfl (by omega) ?_ | refine OW_mulI rfl rfl (by omega) ?_ | refine OW_lss rfl rfl ?_ | refine OW_extract rfl rfl ?_ | refine OW_gtr rfl rfl ?_ | refine OW_leq rfl rfl ?_ | refine OW_geq rfl rfl ?_ | refine OW_eql rfl rfl ?_ | refine OW_neq rfl rfl ?_ | refine OW_not rfl ?_ | refine OW_pickT rfl _ rfl ?_ | refine OW_pickF rfl (.bool _) rfl ?_ | refine OW_pickB rfl rfl rfl ?_ | refine OW_move ?_ | refine OW_assign ?_ | refine OW_pass rfl ?_ | refine OW_take rfl ?_ | refine OW_lenS (by first | with_reducible exact und_bytes | with_reducible exact und_bytess) rfl ?_ | refine OW_convInt (by first | with_reducible exact und_u8 | with_reducible exact und_u64 | with_reducible exact und_int | with_reducible exact und_u32) (by first | with_reducible exact und_u8 | with_reducible exact und_u64 | with_reducible exact und_int | with_reducible exact und_u32) rfl ?_ | refine OW_add rfl rfl ?_ | refine OW_sub rfl rfl ?_ | refine OW_mul rfl rfl ?_ | refine OW_min2 rfl rfl ?_ | refine OW_max2 rfl rfl ?_ | refine OW_neg rfl ?_ | refine CW_block ?_ | refine CW_condT rfl ?_ | refine CW_condF rfl ?_ | refine CW_exit ?_ | refine CW_ret ?_ | refine CW_skip ?_ | refine LW_seq ?_ | refine LW_regC ?_ | refine LW_condC ?_ | refine LW_regF ?_ | refine LW_condF ?_ | refine FW_seq ?_ | refine FW_region (by kernel_rfl) ?_ | refine FW_block ?_ | refine FW_condT rfl ?_ | refine FW_condF rfl ?_ | refine FW_exit ?_ | refine FW_ret ?_ | refine FW_skip ?_ | refine LW_ret ?_ | refine LW_skip ?_ | refine thenE_exit ?_ | refine thenE_ret ?_ | refine inBlockE_normal ?_ | refine inBlockE_same ?_ | refine inBlockE_ret ?_ | refine inBlockE_ne (by rfl) ?_ | refine OW_eqlB (by with_reducible exact und_bool) rfl rfl ?_ | refine OW_neqB (by with_reducible exact und_bool) rfl rfl ?_ | refine OW_idxS (by with_reducible exact und_bytes) one_u8 rfl rfl _ rfl (by omega) ?_ | refine OW_idxS (by with_reducible exact und_bytess) one_bytes rfl rfl _ rfl (by omega) ?_ | refine OW_load1 (by first | with_reducible exact one_u8 | with_reducible exact one_bytes) rfl _ (by assumption) ?_ | refine OW_load1 (by first | with_reducible exact one_int | with_reducible exact one_str | with_reducible exact one_strs | with_reducible exact one_errno) rfl _ (by assumption) ?_ | (refine OW_isLoad ?_; refine OW_loadBk (by first | with_reducible exact one_u8 | with_reducible exact one_bytes | with_reducible exact one_bool | with_reducible exact one_int | with_reducible exact one_errno | with_reducible exact one_u32 | with_reducible exact one_u64 | with_reducible exact one_string | with_reducible exact one_int | with_reducible exact one_str | with_reducible exact one_strs | with_reducible exact one_errno) rfl (by apply_assumption; assumption) _ (by first | assumption | rfl) ?_) | refine OW_load1 (by first | with_reducible exact one_u8 | with_reducible exact one_bytes | with_reducible exact one_bool | with_reducible exact one_int | with_reducible exact one_errno | with_reducible exact one_u32 | with_reducible exact one_u64 | with_reducible exact one_string | with_reducible exact one_int | with_reducible exact one_str | with_reducible exact one_strs | with_reducible exact one_errno) rfl _ (by apply_assumption; assumption) ?_)
         refine OW_nil ?_
         exact stay_mk _ _ _ _)
    | refine OY_ppass rfl rfl ?_
    | refine OY_qpass rfl rfl ?_
    | (apply OY_ptake _ rfl rfl
       · intro wd
         (first | refine OW_fieldF fld_P0 rfl ?_ | refine OW_fieldF fld_P1 rfl ?_ | refine OW_fieldF fld_P2 rfl ?_ | refine OW_fieldF fld_P3 rfl ?_ | refine OW_fieldF fld_P4 rfl ?_ | refine OW_lenL und_string rfl ?_ | refine OW_lenS und_strs rfl ?_ | refine OW_idxS und_strs one_str rfl rfl _ rfl (by omega) ?_ | refine OW_fieldF fld_L0 rfl ?_ | refine OW_fieldF fld_L1 rfl ?_ | refine OW_fieldF fld_L2 rfl ?_ | refine OW_fieldF fld_L3 rfl ?_ | refine OW_fieldF fld_L4 rfl ?_ | refine OW_fieldF fld_L5 rfl ?_ | refine OW_fieldF fld_L6 rfl ?_ | refine OW_fieldF fld_L7 rfl ?_ | refine OW_fieldBL fldo_L8 rfl ?_ | refine OW_loadN agg_Tag rfl (by apply_assumption; assumption) ?_ | refine OW_moveV (.int _ _) rfl ?_ | refine OW_moveV (.slice _ _ _) rfl ?_ | refine OW_moveV (.bool _) rfl ?_ | refine OW_moveV (.pointer _) rfl ?_ | refine OW_moveV (.string _) rfl ?_ | refine OW_moveV (.agg _) rfl ?_ | refine OW_moveV (.tuple _) rfl ?_ | refine OW_nil ?_ | refine thenE_normal ?_ | refine CW_seq ?_ | refine CW_region (by kernel_rfl) ?_ | refine OW_assignV (.int _ _) rfl ?_ | refine OW_assignV (.slice _ _ _) rfl ?_ | refine OW_assignV (.bool _) rfl ?_ | refine OW_assignV (.pointer _) rfl ?_ | refine OW_assignV (.string _) rfl ?_ | refine OW_assignV (.agg _) rfl ?_ | refine OW_assignV (.tuple _) rfl ?_ | refine OW_addI rfl rfl (by omega) ?_ | refine OW_subI rfl rfl (by omega) ?_ | refine OW_mulI rfl rfl (by omega) ?_ | refine OW_lss rfl rfl ?_ | refine OW_extract rfl rfl ?_ | refine OW_gtr rfl rfl ?_ | refine OW_leq rfl rfl ?_ | refine OW_geq rfl rfl ?_ | refine OW_eql rfl rfl ?_ | refine OW_neq rfl rfl ?_ | refine OW_not rfl ?_ | refine OW_pickT rfl _ rfl ?_ | refine OW_pickF rfl (.bool _) rfl ?_ | refine OW_pickB rfl rfl rfl ?_ | refine OW_move ?_ | refine OW_assign ?_ | refine OW_pass rfl ?_ | refine OW_take rfl ?_ | refine OW_lenS (by first | with_reducible exact und_bytes | with_reducible exact und_bytess) rfl ?_ | refine OW_convInt (by first | with_reducible exact und_u8 | with_reducible exact und_u64 | with_reducible exact und_int | with_reducible exact und_u32) (by first | with_reducible exact und_u8 | with_reducible exact und_u64 | with_reducible exact und_int | with_reducible exact und_u32) rfl ?_ | refine OW_add rfl rfl ?_ | refine OW_sub rfl rfl ?_ | refine OW_mul rfl rfl ?_ | refine OW_min2 rfl rfl ?_ | refine OW_max2 rfl rfl ?_ | refine OW_neg rfl ?_ | refine CW_block ?_ | refine CW_condT rfl ?_ | refine CW_condF rfl ?_ | refine CW_exit ?_ | refine CW_ret ?_ | refine CW_skip ?_ | refine LW_seq ?_ | refine LW_regC ?_ | refine LW_condC ?_ | refine LW_regF ?_ | refine LW_condF ?_ | refine FW_seq ?_ | refine FW_region (by kernel_rfl) ?_ | refine FW_block ?_ | refine FW_condT rfl ?_ | refine FW_condF rfl ?_ | refine FW_exit ?_ | refine FW_ret ?_ | refine FW_skip ?_ | refine LW_ret ?_ | refine LW_skip ?_ | refine thenE_exit ?_ | refine thenE_ret ?_ | refine inBlockE_normal ?_ | refine inBlockE_same ?_ | refine inBlockE_ret ?_ | refine inBlockE_ne (by rfl) ?_ | refine OW_eqlB (by with_reducible exact und_bool) rfl rfl ?_ | refine OW_neqB (by with_reducible exact und_bool) rfl rfl ?_ | refine OW_idxS (by with_reducible exact und_bytes) one_u8 rfl rfl _ rfl (by omega) ?_ | refine OW_idxS (by with_reducible exact und_bytess) one_bytes rfl rfl _ rfl (by omega) ?_ | refine OW_load1 (by first | with_reducible exact one_u8 | with_reducible exact one_bytes) rfl _ (by assumption) ?_ | refine OW_load1 (by first | with_reducible exact one_int | with_reducible exact one_str | with_reducible exact one_strs | with_reducible exact one_errno) rfl _ (by assumption) ?_)
         refine OW_nil ?_
         exact stay_mk _ _ _ _)
    | (apply OY_qtake _ rfl rfl
       · intro wd hwd
         (first | refine OW_fieldF fld_P0 rfl ?_ | refine OW_fieldF fld_P1 rfl ?_ | refine OW_fieldF fld_P2 rfl ?_ | refine OW_fieldF fld_P3 rfl ?_ | refine OW_fieldF fld_P4 rfl ?_ | refine OW_lenL und_string rfl ?_ | refine OW_lenS und_strs rfl ?_ | refine OW_idxS und_strs one_str rfl rfl _ rfl (by omega) ?_ | refine OW_fieldF fld_L0 rfl ?_ | refine OW_fieldF fld_L1 rfl ?_ | refine OW_fieldF fld_L2 rfl ?_ | refine OW_fieldF fld_L3 rfl ?_ | refine OW_fieldF fld_L4 rfl ?_ | refine OW_fieldF fld_L5 rfl ?_ | refine OW_fieldF fld_L6 rfl ?_ | refine OW_fieldF fld_L7 rfl ?_ | refine OW_fieldBL fldo_L8 rfl ?_ | refine OW_loadN agg_Tag rfl (by apply_assumption; assumption) ?_ | refine OW_moveV (.int _ _) rfl ?_ | refine OW_moveV (.slice _ _ _) rfl ?_ | refine OW_moveV (.bool _) rfl ?_ | refine OW_moveV (.pointer _) rfl ?_ | refine OW_moveV (.string _) rfl ?_ | refine OW_moveV (.agg _) rfl ?_ | refine OW_moveV (.tuple _) rfl ?_ | refine OW_nil ?_ | refine thenE_normal ?_ | refine CW_seq ?_ | refine CW_region (by kernel_rfl) ?_ | refine OW_assignV (.int _ _) rfl ?_ | refine OW_assignV (.slice _ _ _) rfl ?_ | refine OW_assignV (.bool _) rfl ?_ | refine OW_assignV (.pointer _) rfl ?_ | refine OW_assignV (.string _) rfl ?_ | refine OW_assignV (.agg _) rfl ?_ | refine OW_assignV (.tuple _) rfl ?_ | refine OW_addI rfl rfl (by omega) ?_ | refine OW_subI rfl rfl (by omega) ?_ | refine OW_mulI rfl rfl (by omega) ?_ | refine OW_lss rfl rfl ?_ | refine OW_extract rfl rfl ?_ | refine OW_gtr rfl rfl ?_ | refine OW_leq rfl rfl ?_ | refine OW_geq rfl rfl ?_ | refine OW_eql rfl rfl ?_ | refine OW_neq rfl rfl ?_ | refine OW_not rfl ?_ | refine OW_pickT rfl _ rfl ?_ | refine OW_pickF rfl (.bool _) rfl ?_ | refine OW_pickB rfl rfl rfl ?_ | refine OW_move ?_ | refine OW_assign ?_ | refine OW_pass rfl ?_ | refine OW_take rfl ?_ | refine OW_lenS (by first | with_reducible exact und_bytes | with_reducible exact und_bytess) rfl ?_ | refine OW_convInt (by first | with_reducible exact und_u8 | with_reducible exact und_u64 | with_reducible exact und_int | with_reducible exact und_u32) (by first | with_reducible exact und_u8 | with_reducible exact und_u64 | with_reducible exact und_int | with_reducible exact und_u32) rfl ?_ | refine OW_add rfl rfl ?_ | refine OW_sub rfl rfl ?_ | refine OW_mul rfl rfl ?_ | refine OW_min2 rfl rfl ?_ | refine OW_max2 rfl rfl ?_ | refine OW_neg rfl ?_ | refine CW_block ?_ | refine CW_condT rfl ?_ | refine CW_condF rfl ?_ | refine CW_exit ?_ | refine CW_ret ?_ | refine CW_skip ?_ | refine LW_seq ?_ | refine LW_regC ?_ | refine LW_condC ?_ | refine LW_regF ?_ | refine LW_condF ?_ | refine FW_seq ?_ | refine FW_region (by kernel_rfl) ?_ | refine FW_block ?_ | refine FW_condT rfl ?_ | refine FW_condF rfl ?_ | refine FW_exit ?_ | refine FW_ret ?_ | refine FW_skip ?_ | refine LW_ret ?_ | refine LW_skip ?_ | refine thenE_exit ?_ | refine thenE_ret ?_ | refine inBlockE_normal ?_ | refine inBlockE_same ?_ | refine inBlockE_ret ?_ | refine inBlockE_ne (by rfl) ?_ | refine OW_eqlB (by with_reducible exact und_bool) rfl rfl ?_ | refine OW_neqB (by with_reducible exact und_bool) rfl rfl ?_ | refine OW_idxS (by with_reducible exact und_bytes) one_u8 rfl rfl _ rfl (by omega) ?_ | refine OW_idxS (by with_reducible exact und_bytess) one_bytes rfl rfl _ rfl (by omega) ?_ | refine OW_load1 (by first | with_reducible exact one_u8 | with_reducible exact one_bytes) rfl _ (by assumption) ?_ | refine OW_load1 (by first | with_reducible exact one_int | with_reducible exact one_str | with_reducible exact one_strs | with_reducible exact one_errno) rfl _ (by assumption) ?_ | (refine OW_isLoad ?_; refine OW_loadBk (by first | with_reducible exact one_u8 | with_reducible exact one_bytes | with_reducible exact one_bool | with_reducible exact one_int | with_reducible exact one_errno | with_reducible exact one_u32 | with_reducible exact one_u64 | with_reducible exact one_string | with_reducible exact one_int | with_reducible exact one_str | with_reducible exact one_strs | with_reducible exact one_errno) rfl (by apply_assumption; assumption) _ (by first | assumption | rfl) ?_) | refine OW_load1 (by first | with_reducible exact one_u8 | with_reducible exact one_bytes | with_reducible exact one_bool | with_reducible exact one_int | with_reducible exact one_errno | with_reducible exact one_u32 | with_reducible exact one_u64 | with_reducible exact one_string | with_reducible exact one_int | with_reducible exact one_str | with_reducible exact one_strs | with_reducible exact one_errno) rfl _ (by apply_assumption; assumption) ?_)
         refine OW_nil ?_
         exact stay_mk _ _ _ _)
    | refine OY_a (actY_of rfl ?_)
    | refine OY_d (actY_of rfl ?_)
    | refine OY_a (actY_pass rfl rfl ?_)
    | refine OY_d (actY_pass rfl rfl ?_)
    | refine OY_a (actY_take rfl rfl ?_)
    | refine OY_d (actY_take rfl rfl ?_))
  exact hEnd.out) (k : B) : A := h ⟨k⟩
theorem agg_Rep : AggT Try.prog 29 75 (rcells ⟨0, [], [], 0, ⟨0, 0, 0, 0, 0, 0, 0, tz, tz⟩⟩ (.slice none 0 0)) := ⟨⟨_, Try.underlying29, rfl⟩, by kernel_rfl, fun w => by kernel_rfl⟩
theorem link_in {w : World} {g : Nat} {r : RP} {v : Value} (hb : Blk w g 29 (rcells r v).toArray) : At w ⟨g, 4, none⟩ (lcells r.link) := fun j u hu => by
  rw [addr_add_off, hb.cell, show 4 + j = j + 1 + 1 + 1 + 1 by omega]
  simpa [rcells] using hu
theorem addAll_app (s : Bool × List UInt8) (a b : List (List UInt8)) : addAll (addAll s a) b = addAll s (a ++ b) := by unfold addAll; rw [List.foldl_append]
section
variable {w0 w : World} {g : Nat} {z : Bool × List UInt8} {ps : List (List UInt8)}
theorem WPly.int (h : WPly w0 w g (addAll z ps)) (n : Int) : Calls Try.prog 48 #[.pointer (some ⟨g, 0, none⟩), .int .i64 n] w (fun en w' => en = .returned (.pointer (some ⟨g, 0, none⟩)) ∧ WPly w0 w' g (addAll z (ps ++ [putL (u64N n) 8]))) :=
  h.call fun S hS => by rw [← addAll_app]; exact wInt_any w g S _ hS n
theorem WPly.byte (h : WPly w0 w g (addAll z ps)) (b : UInt8) : Calls Try.prog 52 #[.pointer (some ⟨g, 0, none⟩), bv b] w (fun en w' => en = .returned (.pointer (some ⟨g, 0, none⟩)) ∧ WPly w0 w' g (addAll z (ps ++ [[b]]))) :=
  h.call fun S hS => by rw [← addAll_app]; exact wByte_any w g S _ hS b
theorem WPly.text (h : WPly w0 w g (addAll z ps)) (l : List UInt8) (hl : l.length ≤ 1000000) : Calls Try.prog 55 #[.pointer (some ⟨g, 0, none⟩), stv l] w (fun en w' => en = .returned (.pointer (some ⟨g, 0, none⟩)) ∧ WPly w0 w' g (addAll z (ps ++ [putL l.length 4, l]))) :=
  h.call fun S hS => by rw [← addAll_app]; exact wText_any w g S _ hS ⟨l.toArray⟩ hl
theorem WPly.tag (h : WPly w0 w g (addAll z ps)) (t : List UInt8) (hl : t.length = 32) : Calls Try.prog 56 #[.pointer (some ⟨g, 0, none⟩), .agg (t.map bv).toArray] w (fun en w' => en = .returned (.pointer (some ⟨g, 0, none⟩)) ∧ WPly w0 w' g (addAll z (ps ++ [t]))) :=
  h.call fun S hS => by rw [← addAll_app]; exact wTag_any w g S _ hS t hl
theorem WPly.bytes (h : WPly w0 w g (addAll z ps)) (A : Option Addr) (b : List UInt8) (c : Nat) (hb : Bs w0 A b) (hl : b.length ≤ 1000000) : Calls Try.prog 54 #[.pointer (some ⟨g, 0, none⟩), .slice A b.length c] w (fun en w' => en = .returned (.pointer (some ⟨g, 0, none⟩)) ∧ WPly w0 w' g (addAll z (ps ++ [putL b.length 4, b]))) := by
  obtain ⟨S, h1, h2, h3⟩ := h
  refine (wBytes_any w g S _ h1 A b c (hb.ext h3) (fun ad ha hn hs => by have h4 := h2 _ hs; have h5 := Rd.lt hb (by simpa using hn) ad ha; omega) hl).mono ?_
  rintro en w' ⟨q1, q2, q3⟩
  rw [addAll_app] at q2
  exact ⟨q1, more S w w', q2, fun k hk => by rcases hk with hk | hk; exact h2 k hk; have := h3.size; omega, q3.ext h3 h2⟩
end
/-- A writer in play, beside a block that stays. -/
def WBes (w0 w : World) (g : Nat) (s : Bool × List UInt8) (gb : Nat) (T : TypeId) (cs : Array Value) : Prop := ∃ S, WR w g S s ∧ (∀ k, S k → w0.heap.size ≤ k) ∧ Ext w0 w ∧ ¬ S gb ∧ Blk w gb T cs
section
variable {w0 w w' : World} {g gb : Nat} {s s' z : Bool × List UInt8} {ps : List (List UInt8)} {T : TypeId} {cs : Array Value} {f : FuncId} {args : Array Value}
theorem WPly.beside (h : WPly w0 w g s) (hx : Ext w w') (hg : w.heap.size ≤ gb) (hb : Blk w' gb T cs) : WBes w0 w' g s gb T cs := by
  obtain ⟨S, h1, h2, h3⟩ := h
  exact ⟨S, h1.ext hx, h2, h3.trans' hx, fun hh => by have := h1.bd _ hh; omega, hb⟩
theorem WBes.to (h : WBes w0 w g s gb T cs) : Ext w0 w ∧ Blk w gb T cs := by obtain ⟨S, h1, h2, h3, h4, h5⟩ := h; exact ⟨h3, h5⟩
theorem WBes.ext (h : WBes w0 w g s gb T cs) (hx : Ext w w') : WBes w0 w' g s gb T cs := by
  obtain ⟨S, h1, h2, h3, h4, h5⟩ := h
  exact ⟨S, h1.ext hx, h2, h3.trans' hx, h4, h5.ext hx⟩
theorem WBes.ply (h : WBes w0 w g s gb T cs) : WPly w0 w g s := by obtain ⟨S, h1, h2, h3, h4, h5⟩ := h; exact ⟨S, h1, h2, h3⟩
theorem WBes.call (h : WBes w0 w g s gb T cs) (hc : ∀ S, WR w g S s → Calls Try.prog f args w (WPost w g S s')) : Calls Try.prog f args w (fun en w' => en = .returned (.pointer (some ⟨g, 0, none⟩)) ∧ WBes w0 w' g s' gb T cs) := by
  obtain ⟨S, h1, h2, h3, h4, h5⟩ := h
  refine (hc S h1).mono ?_
  rintro en w' ⟨q1, q2, q3⟩
  exact ⟨q1, more S w w', q2, fun k hk => by rcases hk with hk | hk; exact h2 k hk; have := h3.size; omega, q3.ext h3 h2, fun hh => by rcases hh with hh | hh; exact h4 hh; have := h5.lt; omega, h5.keeps q3 h4⟩
theorem WBes.int (h : WBes w0 w g (addAll z ps) gb T cs) (n : Int) : Calls Try.prog 48 #[.pointer (some ⟨g, 0, none⟩), .int .i64 n] w (fun en w' => en = .returned (.pointer (some ⟨g, 0, none⟩)) ∧ WBes w0 w' g (addAll z (ps ++ [putL (u64N n) 8])) gb T cs) :=
  h.call fun S hS => by rw [← addAll_app]; exact wInt_any w g S _ hS n
theorem WBes.byte (h : WBes w0 w g (addAll z ps) gb T cs) (b : UInt8) : Calls Try.prog 52 #[.pointer (some ⟨g, 0, none⟩), bv b] w (fun en w' => en = .returned (.pointer (some ⟨g, 0, none⟩)) ∧ WBes w0 w' g (addAll z (ps ++ [[b]])) gb T cs) :=
  h.call fun S hS => by rw [← addAll_app]; exact wByte_any w g S _ hS b
theorem WBes.tag (h : WBes w0 w g (addAll z ps) gb T cs) (t : List UInt8) (hl : t.length = 32) : Calls Try.prog 56 #[.pointer (some ⟨g, 0, none⟩), .agg (t.map bv).toArray] w (fun en w' => en = .returned (.pointer (some ⟨g, 0, none⟩)) ∧ WBes w0 w' g (addAll z (ps ++ [t])) gb T cs) :=
  h.call fun S hS => by rw [← addAll_app]; exact wTag_any w g S _ hS t hl
end
/-- A reply's form, in pieces. -/
def keyP (k : List UInt8) : List (List UInt8) := [putL k.length 4, k]
def linkP (l : LK) : List (List UInt8) := [putL (u64N l.n) 8, putL (u64N l.stamp) 8, [l.op], putL (u64N l.ten) 8, putL (u64N l.a) 8, putL (u64N l.b) 8, putL (u64N l.c) 8, l.ahead, l.self]
def headP (r : RP) : List (List UInt8) := [putL (u64N r.err) 8, putL r.value.length 4, r.value, putL (u64N r.keys.length) 8]
def repP (r : RP) : List (List UInt8) := headP r ++ (r.keys.flatMap keyP ++ (putL (u64N r.n) 8 :: linkP r.link))
def repF (r : RP) : List UInt8 := (repP r).flatten
theorem keys_flat : ∀ l : List (List UInt8), (l.flatMap keyP).flatten.length ≤ ksum l
  | [] => by simp [ksum]
  | k :: l => by
    have ih := keys_flat l
    unfold ksum at ih ⊢
    rw [List.flatMap_cons, List.flatten_append, List.length_append, List.map_cons, List.sum_cons]
    simp only [keyP, List.flatten_cons, List.flatten_nil, List.append_nil, List.length_append, putL_length]
    omega
theorem ksum_ok : ∀ {l : List (List UInt8)}, l.all okK = true → ksum l ≤ 522 * l.length
  | [], _ => by simp [ksum]
  | k :: l, h => by
    rw [List.all_cons, Bool.and_eq_true] at h
    have ih := ksum_ok h.2
    have hk := of_decide_eq_true h.1
    unfold ksum at ih ⊢
    rw [List.map_cons, List.sum_cons, List.length_cons]
    omega
theorem repF_len {r : RP} (h : mayP r = true) (hl : LOk r.link) : (repF r).length ≤ 20000 := by
  unfold mayP at h
  rw [Bool.and_eq_true, Bool.and_eq_true] at h
  have h1 := of_decide_eq_true h.1.1
  have h2 := of_decide_eq_true h.1.2
  have h3 := keys_flat r.keys
  have h4 := ksum_ok h.2
  unfold repF repP headP linkP
  simp only [List.flatten_append, List.flatten_cons, List.flatten_nil, List.append_nil, List.length_append, putL_length, List.length_cons, List.length_nil, hl.ahead, hl.self]
  omega
section
variable {P : Program} {ops : Array Oper} {Q : Exit → (Nat → Value) → World → Prop} {rest : List Oper} {e : Nat → Value} {w : World} {d : Tmp} {ty : TypeId} {pos : String} {aft : Array Edge}
theorem OW_fieldBL {x : Operand} {t : TypeId} {g f o : Nat} (hr : FldO P t f o) (hx : ev e x = .pointer (some ⟨g, 0, none⟩))
    (h : OW P ops Q rest (upd e d (.pointer (some ⟨g, o, none⟩))) w) : OW P ops Q (⟨some d, .fieldAddr t x f, ty, pos, aft, none⟩ :: rest) e w :=
  OW_fieldO hr hx (by rw [addr0]; exact h)
structure AtN (w : World) (ad : Addr) (cs : List Value) (n : Nat) : Prop where
  at_ : At w ad cs
  len : cs.length = n
theorem OW_loadN {x : Operand} {t : TypeId} {n : Nat} {ad : Addr} {zs cs : List Value} (ht : AggT P t n zs) (hx : ev e x = .pointer (some ad)) (hc : AtN w ad cs n)
    (h : OW P ops Q rest (upd e d (.agg cs.toArray)) w) : OW P ops Q (⟨some d, .load t x, ty, pos, aft, none⟩ :: rest) e w := OW_loadX ht hx cs hc.len hc.at_ h
end
set_option maxHeartbeats 8000000 in
theorem printReply_any (w : World) (A : Option Addr) (c : Nat) (r : RP) (h : ROk w r A c) : Calls Try.prog 17 #[.agg (rcells r (.slice A r.keys.length c)).toArray] w
    (fun en w' => Ext w w' ∧ ((mayP r = false ∧ en = .returned (.tuple #[.slice none 0 0, .int .i64 2])) ∨ (mayP r = true ∧ ∃ B d, en = .returned (.tuple #[.slice B (repF r).length d, .int .i64 0]) ∧ Fresh 5 w w' B d (repF r)))) := by
  refine calls_of_CW Try.func17 rfl (by simp [Try.ntmps17]) ?_
  rw [Try.ntmps17]
  refine go_Rep2 (k := ?_)
  refine OW_box _ rfl ?_
  intro w1 g hb hg hlt hx
  have hb : Blk w1 g 29 (rcells r (.slice A r.keys.length c)).toArray := hb
  have m0 : w1.cell? ⟨g, 0, none⟩ = some (.int .i64 r.err) := hb.cell 0
  have m1 : w1.cell? ⟨g, 1, none⟩ = some (stv r.value) := hb.cell 1
  have m2 : w1.cell? ⟨g, 2, none⟩ = some (.slice A r.keys.length c) := hb.cell 2
  have m3 : w1.cell? ⟨g, 3, none⟩ = some (.int .i64 r.n) := hb.cell 3
  have mL := link_in hb
  have hrl := rcells_length (v := .slice A r.keys.length c) h.l
  have h1 := h.ext hx
  refine go_Rep2 (k := ?_)
  refine OW_loadX agg_Rep rfl (rcells r (.slice A r.keys.length c)) hrl hb.atL ?_
  refine go_Rep2 (k := ?_)
  refine OW_callV Try.func59 (by kernel_rfl) rfl (mayReply_any w1 A c r h1) rfl ?_
  intro w2 hx2
  cases hm : mayP r with
  | false =>
    refine go_Rep2 (k := ?_)
    exact bodyE_ret2 rfl (.slice none 0 0) (.int .i64 2) rfl rfl ⟨hx.trans' hx2, .inl ⟨rfl, rfl⟩⟩
  | true =>
    have hx02 := hx.trans' hx2
    have hflen := repF_len hm h.l
    have hmay := hm
    unfold mayP at hm
    rw [Bool.and_eq_true, Bool.and_eq_true] at hm
    have hk16 := of_decide_eq_true hm.1.1
    have hv512 := of_decide_eq_true hm.1.2
    have hkall := hm.2
    clear hm
    replace m0 := hx2.cell' m0
    replace m1 := hx2.cell' m1
    replace m2 := hx2.cell' m2
    replace m3 := hx2.cell' m3
    replace mL := mL.ext hx2
    have hks := h1.ks.ext hx2
    have hLo := h.l
    clear hb
    refine go_Rep2 (k := ?_)
    obtain ⟨C, hC⟩ : ∃ C : World → Prop, C = fun v => Ext w2 v := ⟨_, rfl⟩
    have y_m0 := cellE hC m0
    have y_m1 := cellE hC m1
    have y_m2 := cellE hC m2
    refine CW_tree2 [2, 5, 8] (.p 1 (.q 2 (.p 4 (.q 5 (.p 7 (.q 8 (.p 9 (.a 0 (.a 3 (.a 6 (.d 10 (.p 11 .done)))))))))))) (C) (by kernel_rfl) (by kernel_rfl) (by kernel_rfl) ?_ ?_
    · exact inE hC
    intro w3 hx3 h_C
    refine oy_Rep2 (k := ?_)
    refine OW_callC Try.func47 (by kernel_rfl) rfl (newWriter_ply w2 w3 hx3) rfl ?_
    rintro en w4 ⟨gw, rfl, hx4, hR4⟩
    refine ⟨_, rfl, ?_⟩
    replace hR4 : WPly w2 w4 gw (addAll (false, []) []) := hR4
    first | refine OW_nil (goY_mkE hC (hR4.to) ?_) | refine OW_nil (goY_dropE hC (hR4.to) ?_)
    refine oy_Rep2 (k := ?_)
    refine OW_callC Try.func48 (by kernel_rfl) rfl (hR4.int r.err) rfl ?_
    rintro en w5 ⟨rfl, hR5⟩
    refine ⟨_, rfl, ?_⟩
    first | refine OW_nil (goY_mkE hC (hR5.to) ?_) | refine OW_nil (goY_dropE hC (hR5.to) ?_)
    refine oy_Rep2 (k := ?_)
    refine OW_callC Try.func55 (by kernel_rfl) rfl (hR5.text r.value (by omega)) rfl ?_
    rintro en w6 ⟨rfl, hR6⟩
    refine ⟨_, rfl, ?_⟩
    first | refine OW_nil (goY_mkE hC (hR6.to) ?_) | refine OW_nil (goY_dropE hC (hR6.to) ?_)
    refine oy_Rep2 (k := ?_)
    refine OW_callC Try.func48 (by kernel_rfl) rfl (hR6.int r.keys.length) rfl ?_
    rintro en w7 ⟨rfl, hR7⟩
    refine ⟨_, rfl, ?_⟩
    first | refine OW_nil (goY_mkE hC (hR7.to) ?_) | refine OW_nil (goY_dropE hC (hR7.to) ?_)
    refine oy_Rep2 (k := ?_)
    replace hR7 : WPly w2 w7 gw (addAll (false, []) (headP r)) := hR7
    clear y_m0 y_m1 y_m2 h_C hC hR4 hR5 hR6
    have hx27 := hR7.to
    have m2' := hx27.cell' m2
    refine go_Rep2 (k := ?_)
    refine CW_meetB (fun e' w' => e' 1 = .pointer (some ⟨g, 0, none⟩) ∧ e' 4 = .pointer (some ⟨gw, 0, none⟩) ∧ WPly w2 w' gw (addAll (false, []) (headP r ++ r.keys.flatMap keyP))) ?_ ?_
    · refine go_Rep2 (k := ?_)
      refine CW_loop (fun e' w' => ∃ k : Nat, k ≤ r.keys.length ∧ e' 1 = .pointer (some ⟨g, 0, none⟩) ∧ e' 4 = .pointer (some ⟨gw, 0, none⟩) ∧ e' 23 = .slice A r.keys.length c ∧ e' 24 = .int .i64 r.keys.length ∧ e' 25 = .int .i64 k ∧ WPly w2 w' gw (addAll (false, []) (headP r ++ (r.keys.take k).flatMap keyP))) (fun e' _ => r.keys.length - (intOf (e' 25)).toNat) ⟨0, Nat.zero_le _, rfl, rfl, rfl, rfl, rfl, by rw [List.take_zero, List.flatMap_nil, List.append_nil]; exact hR7⟩ ?_
      rintro e' w8 ⟨k, hk, e1, e4, e23, e24, e25, hR8⟩
      rw [upd_self e1, upd_self e4, upd_self e23, upd_self e24, upd_self e25]
      refine go_Rep2 (k := ?_)
      refine CW_cond _ rfl (fun hh => ?_) (fun hh => ?_)
      · have hlt : k < r.keys.length := by have := of_decide_eq_true hh; omega
        clear hh
        obtain ⟨ad, hA, hc⟩ := keys_at (hks.ext hR8.to) hlt
        have hsucc : (r.keys.take (k + 1)).flatMap keyP = (r.keys.take k).flatMap keyP ++ keyP r.keys[k] := by rw [List.take_succ_eq_append_getElem hlt, List.flatMap_append]; simp
        have hkl : (r.keys[k]).length ≤ 1000000 := by
          have := of_decide_eq_true (List.all_eq_true.1 hkall _ (List.getElem_mem hlt)); omega
        generalize r.keys[k] = y at *
        subst hA
        refine go_Rep2 (k := ?_)
        refine OW_callC Try.func55 (by kernel_rfl) rfl (hR8.text y hkl) rfl ?_
        rintro en w9 ⟨rfl, hR9⟩
        refine ⟨_, rfl, ?_⟩
        rw [List.append_assoc] at hR9
        replace hR9 : WPly w2 w9 gw (addAll (false, []) (headP r ++ ((r.keys.take k).flatMap keyP ++ keyP y))) := hR9
        rw [← hsucc] at hR9
        refine go_Rep2 (k := ?_)
        refine ⟨⟨k + 1, by omega, rfl, rfl, rfl, rfl, rfl, hR9⟩, ?_⟩
        show r.keys.length - ((k : Int) + 1).toNat < r.keys.length - (k : Int).toNat
        omega
      · have hge : k = r.keys.length := by have := of_decide_eq_false hh; omega
        subst hge
        rw [List.take_of_length_le (Nat.le_refl _)] at hR8
        refine go_Rep2 (k := ?_)
        exact ⟨rfl, rfl, rfl, hR8⟩
    rintro e8 w8 ⟨q1, q4, hR8⟩
    rw [upd_self q1, upd_self q4]
    have hx28 := hR8.to
    refine go_Rep2 (k := ?_)
    refine OW_loadX agg_Link rfl (lcells r.link) (lcells_length hLo) (mL.ext hx28) ?_
    refine go_Rep2 (k := ?_)
    refine OW_allocA agg_Link ?_
    intro w9 g7 hb9 hg9 hlt9 hx9
    refine go_Rep2 (k := ?_)
    refine OW_storeA agg_Link rfl (lcells r.link) rfl (lcells_length hLo) hb9 (by kernel_rfl) (lcells_one _) ?_
    intro w10 hb10 hg10
    have hx810 : Ext w8 w10 := (Keeps.of_only (S := (· = g7)) hg10 rfl).ext hx9 (fun j hj => by omega)
    have hR10 := hR8.ext hx810
    have lA : (r.link.ahead.map bv).length = 32 := by simp [hLo.ahead]
    have lS : (r.link.self.map bv).length = 32 := by simp [hLo.self]
    have hW10 := hR8.beside hx810 hg9 hb10
    obtain ⟨C, hC⟩ : ∃ C : World → Prop, C = fun v => Ext w2 v ∧ Blk v g7 27 (lcells r.link).toArray := ⟨_, rfl⟩
    have yx : ∀ v, Ext w10 v → C v := by rw [hC]; exact fun v hv => ⟨(hx28.trans' hx810).trans' hv, hb10.ext hv⟩
    have yw : ∀ v s, WBes w2 v gw s g7 27 (lcells r.link).toArray → C v := by rw [hC]; exact fun v s hv => hv.to
    have y3 : ∀ v, C v → v.cell? ⟨g, 3, none⟩ = some (.int .i64 r.n) := by rw [hC]; exact fun v hv => hv.1.cell' m3
    have n0 : ∀ v, C v → v.cell? ⟨g7, 0, none⟩ = some (.int .i64 r.link.n) := by rw [hC]; exact fun v hv => hv.2.cell 0
    have n1 : ∀ v, C v → v.cell? ⟨g7, 1, none⟩ = some (.int .i64 r.link.stamp) := by rw [hC]; exact fun v hv => hv.2.cell 1
    have n2 : ∀ v, C v → v.cell? ⟨g7, 2, none⟩ = some (bv r.link.op) := by rw [hC]; exact fun v hv => hv.2.cell 2
    have n4 : ∀ v, C v → v.cell? ⟨g7, 3, none⟩ = some (.int .i64 r.link.ten) := by rw [hC]; exact fun v hv => hv.2.cell 3
    have n5 : ∀ v, C v → v.cell? ⟨g7, 4, none⟩ = some (.int .i64 r.link.a) := by rw [hC]; exact fun v hv => hv.2.cell 4
    have n6 : ∀ v, C v → v.cell? ⟨g7, 5, none⟩ = some (.int .i64 r.link.b) := by rw [hC]; exact fun v hv => hv.2.cell 5
    have n7 : ∀ v, C v → v.cell? ⟨g7, 6, none⟩ = some (.int .i64 r.link.c) := by rw [hC]; exact fun v hv => hv.2.cell 6
    have nA : ∀ v, C v → AtN v ⟨g7, 7, none⟩ (r.link.ahead.map bv) 32 := by rw [hC]; exact fun v hv => ⟨ahead_in hLo hv.2, lA⟩
    have nS : ∀ v, C v → AtN v ⟨g7, 39, none⟩ (r.link.self.map bv) 32 := by rw [hC]; exact fun v hv => ⟨self_in hLo hv.2, lS⟩
    clear m0 m1 m2 m2' mL hks
    clear hC
    refine go_Rep2 (k := ?_)
    refine CW_tree2 [2, 5, 8, 11, 14, 17, 20, 23, 26, 29] (.p 0 (.p 1 (.q 2 (.p 4 (.q 5 (.p 7 (.q 8 (.p 10 (.q 11 (.p 13 (.q 14 (.p 16 (.q 17 (.p 19 (.q 20 (.p 22 (.q 23 (.p 25 (.q 26 (.p 28 (.q 29 (.a 3 (.a 6 (.a 9 (.a 12 (.a 15 (.a 18 (.a 21 (.a 24 (.a 27 (.d 30 (.d 31 (.p 32 (.p 33 (.p 34 (.p 35 .done)))))))))))))))))))))))))))))))))))) (C) (by kernel_rfl) (by kernel_rfl) (by kernel_rfl) ?_ ?_
    · exact yx
    intro w11 hx11 hC11
    have hW11 := hW10.ext hx11
    refine oy_Rep2 (k := ?_)
    refine OW_callC Try.func48 (by kernel_rfl) rfl (hW11.int r.n) rfl ?_
    rintro en w12 ⟨rfl, hW12⟩
    refine ⟨_, rfl, ?_⟩
    first | refine OW_nil (goY_mk (yw _ _ hW12) ?_) | refine OW_nil (goY_drop C (yw _ _ hW12) ?_)
    refine oy_Rep2 (k := ?_)
    refine OW_callC Try.func48 (by kernel_rfl) rfl (hW12.int r.link.n) rfl ?_
    rintro en w13 ⟨rfl, hW13⟩
    refine ⟨_, rfl, ?_⟩
    first | refine OW_nil (goY_mk (yw _ _ hW13) ?_) | refine OW_nil (goY_drop C (yw _ _ hW13) ?_)
    refine oy_Rep2 (k := ?_)
    refine OW_callC Try.func48 (by kernel_rfl) rfl (hW13.int r.link.stamp) rfl ?_
    rintro en w14 ⟨rfl, hW14⟩
    refine ⟨_, rfl, ?_⟩
    first | refine OW_nil (goY_mk (yw _ _ hW14) ?_) | refine OW_nil (goY_drop C (yw _ _ hW14) ?_)
    refine oy_Rep2 (k := ?_)
    refine OW_callC Try.func52 (by kernel_rfl) rfl (hW14.byte r.link.op) rfl ?_
    rintro en w15 ⟨rfl, hW15⟩
    refine ⟨_, rfl, ?_⟩
    first | refine OW_nil (goY_mk (yw _ _ hW15) ?_) | refine OW_nil (goY_drop C (yw _ _ hW15) ?_)
    refine oy_Rep2 (k := ?_)
    refine OW_callC Try.func48 (by kernel_rfl) rfl (hW15.int r.link.ten) rfl ?_
    rintro en w16 ⟨rfl, hW16⟩
    refine ⟨_, rfl, ?_⟩
    first | refine OW_nil (goY_mk (yw _ _ hW16) ?_) | refine OW_nil (goY_drop C (yw _ _ hW16) ?_)
    refine oy_Rep2 (k := ?_)
    refine OW_callC Try.func48 (by kernel_rfl) rfl (hW16.int r.link.a) rfl ?_
    rintro en w17 ⟨rfl, hW17⟩
    refine ⟨_, rfl, ?_⟩
    first | refine OW_nil (goY_mk (yw _ _ hW17) ?_) | refine OW_nil (goY_drop C (yw _ _ hW17) ?_)
    refine oy_Rep2 (k := ?_)
    refine OW_callC Try.func48 (by kernel_rfl) rfl (hW17.int r.link.b) rfl ?_
    rintro en w18 ⟨rfl, hW18⟩
    refine ⟨_, rfl, ?_⟩
    first | refine OW_nil (goY_mk (yw _ _ hW18) ?_) | refine OW_nil (goY_drop C (yw _ _ hW18) ?_)
    refine oy_Rep2 (k := ?_)
    refine OW_callC Try.func48 (by kernel_rfl) rfl (hW18.int r.link.c) rfl ?_
    rintro en w19 ⟨rfl, hW19⟩
    refine ⟨_, rfl, ?_⟩
    first | refine OW_nil (goY_mk (yw _ _ hW19) ?_) | refine OW_nil (goY_drop C (yw _ _ hW19) ?_)
    refine oy_Rep2 (k := ?_)
    refine OW_callC Try.func56 (by kernel_rfl) rfl (hW19.tag r.link.ahead hLo.ahead) rfl ?_
    rintro en w20 ⟨rfl, hW20⟩
    refine ⟨_, rfl, ?_⟩
    first | refine OW_nil (goY_mk (yw _ _ hW20) ?_) | refine OW_nil (goY_drop C (yw _ _ hW20) ?_)
    refine oy_Rep2 (k := ?_)
    refine OW_callC Try.func56 (by kernel_rfl) rfl (hW20.tag r.link.self hLo.self) rfl ?_
    rintro en w21 ⟨rfl, hW21⟩
    refine ⟨_, rfl, ?_⟩
    first | refine OW_nil (goY_mk (yw _ _ hW21) ?_) | refine OW_nil (goY_drop C (yw _ _ hW21) ?_)
    refine oy_Rep2 (k := ?_)
    have hfin := addAll_ok (repP r) [] (by have : (repP r).flatten.length ≤ 20000 := hflen; simp only [List.length_nil]; omega)
    rw [List.nil_append] at hfin
    have hP : WPly w2 w21 gw (false, repF r) := by
      have h9 : WPly w2 w21 gw (addAll (false, []) (repP r)) := by
        have := hW21.ply
        simpa [repP, linkP] using this
      rw [hfin] at h9
      exact h9
    generalize repF r = F at *
    refine OW_callC Try.func32 (by kernel_rfl) rfl (done_ply hP) rfl ?_
    rintro en w22 ⟨B, d, rfl, hf⟩
    refine ⟨_, rfl, ?_⟩
    have hxe := hP.to.trans' hf.ext
    first | refine OW_nil (goY_mk ?_ ?_) | refine OW_nil (goY_drop (fun _ => True) trivial ?_)
    refine oy_Rep2 (k := ?_)
    refine go_Rep2 (k := ?_)
    exact bodyE_ret2 rfl (.slice B F.length d) (.int .i64 0) rfl rfl ⟨hx02.trans' hxe, .inr ⟨rfl, B, d, rfl, hf.back (hx02.trans' hP.to)⟩⟩
end Go.Proofs.Ytdpomchhbbopbaa

/- What a reader reads, plainly: numbers, texts, lists of texts; forth, cut off, and back. -/
namespace Go.Proofs.Ytdpomchhbbopbaa
open Go Go.RowKit
set_option linter.unusedVariables false
set_option maxRecDepth 4000
abbrev ST := List UInt8 × Int
def rdI (s : ST) : Int := if fits s 8 then i64L (s.1.take 8) else 0
def rdB (s : ST) : UInt8 := if fits s 1 then s.1.headD 0 else 0
def s8 (s : ST) : ST := stepS s 8 true
def s1 (s : ST) : ST := stepS s 1 true
def s32 (s : ST) : ST := stepS s 32 true
theorem rdI_i64 (s : ST) : I64 (rdI s) := by
  unfold rdI i64L I64
  split
  · simp [IntKind.wrap, IntKind.signed, IntKind.bits]
    split <;> omega
  · omega
theorem rdI_ok {n : Int} {r : List UInt8} (h : I64 n) : rdI (putL (u64N n) 8 ++ r, 0) = n ∧ s8 (putL (u64N n) 8 ++ r, 0) = (r, 0) := by
  refine ⟨?_, stW_ok (by rw [putL_length]; rfl)⟩
  unfold rdI
  rw [fitsW_ok (by rw [putL_length]; rfl), if_pos rfl, List.take_append_of_le_length (by rw [putL_length]; exact Nat.le_refl _), List.take_of_length_le (by rw [putL_length]; exact Nat.le_refl _), i64_back h]
theorem rdB_ok {b : UInt8} {r : List UInt8} : rdB ([b] ++ r, 0) = b ∧ s1 ([b] ++ r, 0) = (r, 0) := by
  refine ⟨?_, stW_ok rfl⟩
  unfold rdB
  rw [fitsW_ok (l := [b]) (n := 1) rfl]
  rfl
theorem rdT_ok {l r : List UInt8} (h : l.length = 32) : tagV (l ++ r, 0) = l ∧ s32 (l ++ r, 0) = (r, 0) := ⟨tagV_ok h, stW_ok (by omega)⟩
theorem count_ok {n : Nat} {r : List UInt8} {most : Int} (hn : n ≤ 1000000) (hm : (n : Int) ≤ most) (hr : n ≤ r.length) : countV (putL (u64N n) 8 ++ r, 0) most = n ∧ countS (putL (u64N n) 8 ++ r, 0) most = (r, 0) := by
  have hi : i64L ((putL (u64N n) 8 ++ r).take 8) = n := by
    rw [List.take_append_of_le_length (by rw [putL_length]; exact Nat.le_refl _), List.take_of_length_le (by rw [putL_length]; exact Nat.le_refl _), i64_back (by unfold I64; omega)]
  have hc : countOk (n : Int) most (((putL (u64N n) 8 ++ r).length : Int) - 8) = true := by
    unfold countOk
    rw [List.length_append, putL_length]
    simp only [Bool.and_eq_true, decide_eq_true_eq]
    omega
  unfold countV countS
  simp only [hi, hc]
  exact ⟨by rw [fitsW_ok (by rw [putL_length]; rfl)]; rfl, stW_ok (by rw [putL_length]; rfl)⟩
theorem endE_zero {s : ST} : endE s = 0 ↔ s.2 = 0 ∧ s.1 = [] := by
  unfold endE
  by_cases h : s.2 ≠ 0
  · rw [if_pos h]
    exact ⟨fun hh => absurd hh h, fun hh => absurd hh.1 h⟩
  · rw [if_neg h]
    have h0 : s.2 = 0 := by simpa using h
    by_cases h1 : s.1.length = 0
    · rw [if_pos h1]
      exact ⟨fun _ => ⟨h0, List.eq_nil_of_length_eq_zero h1⟩, fun _ => rfl⟩
    · rw [if_neg h1]
      exact ⟨fun hh => by omega, fun hh => by rw [hh.2] at h1; exact absurd rfl h1⟩
/-- So many texts. -/
def readKeys : Nat → ST → List (List UInt8) × ST
  | 0, s => ([], s)
  | n + 1, s => ((readKeys n s).1 ++ [bytesV (readKeys n s).2], bytesS (readKeys n s).2)
theorem readKeys_length : ∀ (n : Nat) (s : ST), (readKeys n s).1.length = n
  | 0, _ => rfl
  | n + 1, s => by show ((readKeys n s).1 ++ [_]).length = _; rw [List.length_append, readKeys_length n s]; rfl
theorem readKeys_ok (keys : List (List UInt8)) (r : List UInt8) (h : ∀ k ∈ keys, k.length ≤ 65536) : ∀ n, n ≤ keys.length → readKeys n ((keys.flatMap keyP).flatten ++ r, 0) = (keys.take n, (((keys.drop n).flatMap keyP).flatten ++ r, 0))
  | 0, _ => by simp [readKeys]
  | n + 1, hn => by
    have ih := readKeys_ok keys r h n (by omega)
    have hd : keys.drop n = keys[n] :: keys.drop (n + 1) := List.drop_eq_getElem_cons (by omega)
    have hb := bytes_ok (l := keys[n]) (r := ((keys.drop (n + 1)).flatMap keyP).flatten ++ r) (h _ (List.getElem_mem (by omega)))
    have he : ((keys.drop n).flatMap keyP).flatten ++ r = putL (keys[n]).length 4 ++ (keys[n] ++ (((keys.drop (n + 1)).flatMap keyP).flatten ++ r)) := by
      rw [hd, List.flatMap_cons]; simp [keyP]
    show ((readKeys n _).1 ++ [bytesV (readKeys n _).2], bytesS (readKeys n _).2) = _
    rw [ih, he, hb.1, hb.2, List.take_succ_eq_append_getElem (by omega)]
/-- What was read is what stood there. -/
def Eats (s s' : ST) (p : List UInt8) : Prop := s'.2 = 0 → s.2 = 0 ∧ s.1 = p ++ s'.1
theorem Eats.rfl' (s : ST) : Eats s s [] := fun h => ⟨h, rfl⟩
theorem Eats.trans {a b c : ST} {p q : List UInt8} (h : Eats a b p) (k : Eats b c q) : Eats a c (p ++ q) := fun hc => by
  obtain ⟨h1, h2⟩ := k hc
  obtain ⟨h3, h4⟩ := h h1
  exact ⟨h3, by rw [h4, h2, List.append_assoc]⟩
theorem st_good' {s : ST} {n : Int} {ok : Bool} (h : (stepS s n ok).2 = 0) : s.2 = 0 ∧ 0 ≤ n ∧ n ≤ s.1.length ∧ ok = true ∧ fits s n = true ∧ stepS s n ok = (s.1.drop n.toNat, 0) := by
  unfold stepS at h ⊢
  split at h
  · rename_i hh; exact absurd h hh
  · rename_i h0
    have h0 : s.2 = 0 := by simpa using h0
    split at h
    · cases h
    · rename_i h1
      split at h
      · rename_i h2
        refine ⟨h0, by omega, by omega, h2, decide_eq_true ⟨h0, by omega, by omega⟩, ?_⟩
        rw [if_neg (by simpa using h0), if_neg h1, if_pos h2]
      · cases h
theorem head_drop' {l : List UInt8} (h : 1 ≤ l.length) : l = [l.headD 0] ++ l.drop 1 := by
  cases l with
  | nil => simp at h
  | cons a l => rfl
theorem eats_B (s : ST) : Eats s (s1 s) [rdB s] := fun h => by
  obtain ⟨h1, _, h3, _, h5, h6⟩ := st_good' h
  unfold s1 rdB
  rw [h5, h6]
  exact ⟨h1, by simpa using head_drop' (l := s.1) (by omega)⟩
theorem eats_I (s : ST) : Eats s (s8 s) (putL (u64N (rdI s)) 8) := fun h => by
  obtain ⟨h1, _, h3, _, h5, h6⟩ := st_good' h
  unfold s8 rdI
  rw [h5, h6, if_pos rfl, i64_there _ (by rw [List.length_take]; omega)]
  refine ⟨h1, ?_⟩
  simp
theorem eats_C (s : ST) (most : Int) : Eats s (countS s most) (putL (u64N (countV s most)) 8) := fun h => by
  obtain ⟨h1, _, h3, h4, h5, h6⟩ := st_good' h
  unfold countV
  rw [h5, h4, Bool.and_true, if_pos rfl, i64_there _ (by rw [List.length_take]; omega)]
  refine ⟨h1, ?_⟩
  unfold countS
  rw [h6]
  simp
theorem count_pos (s : ST) (most : Int) : 0 ≤ countV s most ∧ (0 ≤ most → countV s most ≤ most) := by
  unfold countV
  split
  · rename_i h
    rw [Bool.and_eq_true] at h
    unfold countOk at h
    simp only [Bool.and_eq_true, decide_eq_true_eq] at h
    omega
  · exact ⟨Int.le_refl _, id⟩
theorem eats_X (s : ST) : Eats s (bytesS s) (putL (bytesV s).length 4 ++ bytesV s) := fun h => by
  unfold bytesS at h
  obtain ⟨h1, h2, h3, _, h5, h6⟩ := st_good' h
  obtain ⟨k1, _, k3, k4, k5, k6⟩ := st_good' h1
  refine ⟨k1, ?_⟩
  have hV : bytesV s = (s.1.drop 4).take (lenN s).toNat := by
    unfold bytesV
    rw [h5, if_pos rfl, k6]
    rfl
  have hS : bytesS s = ((s.1.drop 4).drop (lenN s).toNat, 0) := by
    unfold bytesS
    rw [h6, k6]
    rfl
  have hN : lenN s = loadL (s.1.take 4) := by
    unfold lenN
    rw [k5, k4]
    rfl
  rw [k6] at h3
  have h3 : lenN s ≤ ((s.1.drop 4).length : Int) := h3
  have hVl : (bytesV s).length = loadL (s.1.take 4) := by
    rw [hV, List.length_take]
    omega
  rw [hVl, putL_loadL 4 _ (by rw [List.length_take]; omega), hV, hS, List.append_assoc]
  rw [List.take_append_drop, List.take_append_drop]
theorem eats_T (s : ST) : Eats s (s32 s) (tagV s) := fun h => by
  obtain ⟨h1, _, h3, _, h5, h6⟩ := st_good' h
  unfold tagV s32
  rw [h5, h6, if_pos rfl]
  refine ⟨h1, ?_⟩
  simp
theorem eats_K : ∀ (n : Nat) (s : ST), Eats s (readKeys n s).2 ((readKeys n s).1.flatMap keyP).flatten
  | 0, s => by simpa [readKeys] using Eats.rfl' s
  | n + 1, s => by
    have h := (eats_K n s).trans (eats_X (readKeys n s).2)
    have e : ((readKeys (n + 1) s).1.flatMap keyP).flatten = ((readKeys n s).1.flatMap keyP).flatten ++ (putL (bytesV (readKeys n s).2).length 4 ++ bytesV (readKeys n s).2) := by
      show (((readKeys n s).1 ++ [bytesV (readKeys n s).2]).flatMap keyP).flatten = _
      simp [keyP]
    rw [e]
    exact h
/-- A reader whose bytes end too soon. -/
def Cut (p : List UInt8) (s : ST) : Prop := s = ([], 40) ∨ ∃ m, m < p.length ∧ s = (p.take m, 0)
theorem Cut.step {p q : List UInt8} {s : ST} {n : Int} (h : Cut (p ++ q) s) (hn : n = p.length) : Cut q (stepS s n true) := by
  subst hn
  rcases h with rfl | ⟨m, hm, rfl⟩
  · exact .inl (stW_bad (by simp))
  · rw [List.length_append] at hm
    by_cases hk : m < p.length
    · exact .inl (stW_short (by rw [List.take_append_of_le_length (by omega), List.length_take]; omega))
    · refine .inr ⟨m - p.length, by omega, ?_⟩
      rw [List.take_append, List.take_of_length_le (by omega)]
      exact stW_ok rfl
theorem Cut.int {n : Int} {q : List UInt8} {s : ST} (h : Cut (putL (u64N n) 8 ++ q) s) : Cut q (s8 s) := h.step (by rw [putL_length]; rfl)
theorem Cut.byte {b : UInt8} {q : List UInt8} {s : ST} (h : Cut ([b] ++ q) s) : Cut q (s1 s) := h.step rfl
theorem Cut.tag {t q : List UInt8} {s : ST} (h : Cut (t ++ q) s) (ht : t.length = 32) : Cut q (s32 s) := h.step (by omega)
theorem Cut.text {l q : List UInt8} {s : ST} (h : Cut (putL l.length 4 ++ l ++ q) s) (hl : l.length ≤ 65536) : Cut q (bytesS s) := by
  rcases h with rfl | ⟨m, hm, rfl⟩
  · exact .inl (bytes_bad (by simp)).2
  · have hp := putL_length l.length 4
    rw [List.length_append, List.length_append] at hm
    by_cases hk : m < 4 + l.length
    · left
      rw [List.take_append_of_le_length (by rw [List.length_append]; omega)]
      exact bytes_short hl hk rfl
    · right
      refine ⟨m - (4 + l.length), by omega, ?_⟩
      rw [List.take_append, List.take_of_length_le (by rw [List.length_append]; omega), List.length_append, hp, List.append_assoc]
      exact (bytes_ok hl).2
theorem Cut.count {n : Nat} {q : List UInt8} {s : ST} {most : Int} (h : Cut (putL (u64N n) 8 ++ q) s) (hn : n ≤ 1000000) : countS s most = ([], 40) ∨ (countV s most = n ∧ Cut q (countS s most)) := by
  rcases h with rfl | ⟨m, hm, rfl⟩
  · exact .inl (stW_bad (by simp))
  · have hp := putL_length (u64N n) 8
    rw [List.length_append] at hm
    by_cases hk : m < 8
    · exact .inl (stW_short (by rw [List.take_append_of_le_length (by omega), List.length_take]; omega))
    · have he : (putL (u64N n) 8 ++ q).take m = putL (u64N n) 8 ++ q.take (m - 8) := by rw [List.take_append, List.take_of_length_le (by omega), hp]
      rw [he]
      have hi : i64L ((putL (u64N n) 8 ++ q.take (m - 8)).take 8) = n := by
        rw [List.take_append_of_le_length (by omega), List.take_of_length_le (by omega), i64_back (by unfold I64; omega)]
      unfold countV countS
      rw [hi]
      cases hc : countOk (n : Int) most (((putL (u64N n) 8 ++ q.take (m - 8), (0 : Int)).1.length : Int) - 8) with
      | true =>
        right
        refine ⟨by rw [fitsW_ok (by rw [putL_length]; rfl)]; rfl, .inr ⟨m - 8, by omega, stW_ok (by rw [putL_length]; rfl)⟩⟩
      | false =>
        left
        rw [stepS_ok (fitsW_ok (by rw [putL_length]; rfl))]
        rfl
theorem Cut.keys {keys : List (List UInt8)} {q : List UInt8} (hl : ∀ k ∈ keys, k.length ≤ 65536) {s : ST} (h : Cut ((keys.flatMap keyP).flatten ++ q) s) : ∀ n, n ≤ keys.length → Cut (((keys.drop n).flatMap keyP).flatten ++ q) (readKeys n s).2
  | 0, _ => h
  | n + 1, hn => by
    have ih := Cut.keys hl h n (by omega)
    have hd : keys.drop n = keys[n] :: keys.drop (n + 1) := List.drop_eq_getElem_cons (by omega)
    have he : ((keys.drop n).flatMap keyP).flatten ++ q = putL (keys[n]).length 4 ++ keys[n] ++ (((keys.drop (n + 1)).flatMap keyP).flatten ++ q) := by
      rw [hd, List.flatMap_cons]; simp [keyP]
    rw [he] at ih
    exact ih.text (hl _ (List.getElem_mem (by omega)))
theorem readKeys_bad (s : ST) (h : s.2 ≠ 0) : ∀ n, (readKeys n s).2 = s
  | 0 => rfl
  | n + 1 => by
    show bytesS (readKeys n s).2 = s
    rw [readKeys_bad s h n]
    exact (bytes_bad h).2
theorem Cut.end_ {s : ST} (h : Cut [] s) : s = ([], 40) := by
  rcases h with h | ⟨m, hm, _⟩
  · exact h
  · simp at hm
theorem Cut.bad (q : List UInt8) : Cut q ([], 40) := .inl rfl
end Go.Proofs.Ytdpomchhbbopbaa
