/- Walk: the chapter's examples. -/
import Derived.Test.YtikkfpgbbenheaaSha5
import Derived.Test.YtikkfpgbbenheaaShaC
namespace Go.Proofs.Ytikkfpgbbenheaa
open Go Go.RowKit
set_option linter.unusedVariables false
theorem go_ShaW {A B : Prop} (h : Held B → A := by
  intro hEnd
  repeat (first | refine OW_idxAI s_und_Tag one_u8 rfl rfl (by decide) (by decide) ?_ | refine OW_shrZ rfl rfl (by decide) ?_ | (refine OW_isLoad ?_; refine OW_loadBk one_u8 rfl (by assumption) _ (by assumption) ?_) | refine OW_eqlT rfl rfl (by assumption) ?_ | refine OW_moveV (.int _ _) rfl ?_ | refine OW_moveV (.slice _ _ _) rfl ?_ | refine OW_moveV (.bool _) rfl ?_ | refine OW_moveV (.pointer _) rfl ?_ | refine OW_moveV (.string _) rfl ?_ | refine OW_moveV (.agg _) rfl ?_ | refine OW_moveV (.tuple _) rfl ?_ | refine OW_nil ?_ | refine thenE_normal ?_ | refine CW_seq ?_ | refine CW_region (by kernel_rfl) ?_ | refine OW_assignV (.int _ _) rfl ?_ | refine OW_assignV (.slice _ _ _) rfl ?_ | refine OW_assignV (.bool _) rfl ?_ | refine OW_assignV (.pointer _) rfl ?_ | refine OW_assignV (.string _) rfl ?_ | refine OW_assignV (.agg _) rfl ?_ | refine OW_assignV (.tuple _) rfl ?_ | refine OW_addI rfl rfl (by omega) ?_ | refine OW_subI rfl rfl (by omega) ?_ | refine OW_mulI rfl rfl (by omega) ?_ | refine OW_lss rfl rfl ?_ | refine OW_extract rfl rfl ?_ | refine OW_gtr rfl rfl ?_ | refine OW_leq rfl rfl ?_ | refine OW_geq rfl rfl ?_ | refine OW_eql rfl rfl ?_ | refine OW_neq rfl rfl ?_ | refine OW_not rfl ?_ | refine OW_pickT rfl _ rfl ?_ | refine OW_pickF rfl (.bool _) rfl ?_ | refine OW_pickB rfl rfl rfl ?_ | refine OW_move ?_ | refine OW_assign ?_ | refine OW_pass rfl ?_ | refine OW_take rfl ?_ | refine OW_lenS (by first | with_reducible exact und_bytes | with_reducible exact und_bytess) rfl ?_ | refine OW_convInt (by first | with_reducible exact und_u8 | with_reducible exact und_u64 | with_reducible exact und_int | with_reducible exact und_u32) (by first | with_reducible exact und_u8 | with_reducible exact und_u64 | with_reducible exact und_int | with_reducible exact und_u32) rfl ?_ | refine OW_add rfl rfl ?_ | refine OW_sub rfl rfl ?_ | refine OW_mul rfl rfl ?_ | refine OW_min2 rfl rfl ?_ | refine OW_max2 rfl rfl ?_ | refine OW_neg rfl ?_ | refine CW_block ?_ | refine CW_condT rfl ?_ | refine CW_condF rfl ?_ | refine CW_exit ?_ | refine CW_ret ?_ | refine CW_skip ?_ | refine LW_seq ?_ | refine LW_regC ?_ | refine LW_condC ?_ | refine LW_regF ?_ | refine LW_condF ?_ | refine FW_seq ?_ | refine FW_region (by kernel_rfl) ?_ | refine FW_block ?_ | refine FW_condT rfl ?_ | refine FW_condF rfl ?_ | refine FW_exit ?_ | refine FW_ret ?_ | refine FW_skip ?_ | refine LW_ret ?_ | refine LW_skip ?_ | refine thenE_exit ?_ | refine thenE_ret ?_ | refine inBlockE_normal ?_ | refine inBlockE_same ?_ | refine inBlockE_ret ?_ | refine inBlockE_ne (by rfl) ?_ | refine OW_eqlB (by with_reducible exact und_bool) rfl rfl ?_ | refine OW_neqB (by with_reducible exact und_bool) rfl rfl ?_ | refine OW_idxS (by with_reducible exact und_bytes) one_u8 rfl rfl _ rfl (by omega) ?_ | refine OW_idxS (by with_reducible exact und_bytess) one_bytes rfl rfl _ rfl (by omega) ?_ | refine OW_load1 (by first | with_reducible exact one_u8 | with_reducible exact one_bytes) rfl _ (by assumption) ?_)
  exact hEnd.out) (k : B) : A := h ⟨k⟩
section
variable {P : Program} {ops : Array Oper} {Q : Exit → (Nat → Value) → World → Prop} {rest : List Oper} {e : Nat → Value} {w : World} {d : Tmp} {ty : TypeId} {pos : String} {aft : Array Edge}
theorem OW_shrZ {x y : Operand} {t t' : TypeId} {a : UInt32} {ky : IntKind} {b : Int} (hx : ev e x = uv a) (hy : ev e y = .int ky b) (hk : 0 ≤ b ∧ b ≤ 32) (h : OW P ops Q rest (upd e d (uv (shU a b.toNat))) w) : OW P ops Q (⟨some d, .binOp .shr t x y t', ty, pos, aft, none⟩ :: rest) e w :=
  OW_shrW b.toNat hx hy (by omega) (by omega) h
theorem OW_eqlT {x y : Operand} {t t' : TypeId} {k : IntKind} {a b : Int} (hx : ev e x = .int k a) (hy : ev e y = .int k b) (hh : a = b) (h : OW P ops Q rest (upd e d (.bool true)) w) : OW P ops Q (⟨some d, .binOp .eql t x y t', ty, pos, aft, none⟩ :: rest) e w :=
  OW_eql hx hy (by rw [hh, beq_self_eq_true]; exact h)
/-- Bytes of a constant, converted: the block is marked behind its end. -/
theorem OW_convB {x : Operand} {t el : TypeId} {g n c : Nat} {cs : Array Value} (ht : P.underlying t = some (.slice el)) (he : P.underlying el = some (.int .u8)) (hx : ev e x = .slice (some ⟨g, 0, none⟩) n c) (hb : Blk w g el cs)
    (h : ∀ w', Rd w' (some ⟨g, 0, none⟩) cs.toList → w.grownBy w' (some g) → OW P ops Q rest (upd e d (.slice (some ⟨g, 0, none⟩) n c)) w') : OW P ops Q (⟨some d, .convert t t x, ty, pos, aft, none⟩ :: rest) e w := by
  have hb' : w.heap[g]? = some (.cells cs el (0, 0)) := hb
  have hsh : w.shape? g = some (el, cs.size) := by unfold World.shape?; rw [hb']
  refine OW_valw (.slice (some ⟨g, 0, none⟩) n c) (w.freeze ⟨g, cs.size, none⟩ 1) rfl ?_ (h _ ?_ ?_)
  · simp only [execOp, hx, Sem.run_bind]
    simp [convert, run_underlying ht, run_underlying he, markStringish, hsh]
  · intro j u hu
    refine ⟨_, rfl, ?_⟩
    rw [add0]
    have hm : (w.freeze ⟨g, cs.size, none⟩ 1).heap[g]? = some (.cells cs el (cs.size, cs.size + 1)) := by
      simp [World.freeze, Array.getElem?_modify, hb']
    rw [cell_of_row _ _ _ _ _ _ hm]
    simpa using hu
  · refine ⟨rfl, rfl, rfl, by simp [World.freeze], fun k hk hne => ?_⟩
    have : g ≠ k := fun h => hne (by rw [h])
    simp [World.freeze, Array.getElem?_modify, this]
end
theorem nat_u32_ofNat {x : UInt32} {n : Nat} (h : x.toNat = n) : uv x = .int .u32 (n : Int) := by unfold uv; rw [h]
set_option maxRecDepth 4000 in
theorem begins_true (w : World) (s : N8) : Calls Try.prog 33 #[.agg ((outB s).map bv).toArray, uv s.a] w (RetV w (.bool true)) := by
  refine calls_of_CW Try.func33 rfl (by simp [Try.ntmps33]) ?_
  rw [Try.ntmps33]
  refine go_ShaW (k := ?_)
  refine OW_box _ rfl ?_
  intro w1 g hb hg hlt hx
  replace hb : Blk w1 g 31 ((outB s).map bv).toArray := hb
  obtain ⟨cx, hcx⟩ : ∃ cx, ((outB s).map bv).toArray = cx := ⟨_, rfl⟩
  have hl := u32_lt s.a
  have k0 : cx[(0 : Int).toNat]? = some (.int .u8 ((UInt8.ofNat (s.a.toNat / 256 ^ 3)).toNat : Int)) := by rw [← hcx]; rfl
  have k1 : cx[(1 : Int).toNat]? = some (.int .u8 ((UInt8.ofNat (s.a.toNat / 256 ^ 2)).toNat : Int)) := by rw [← hcx]; rfl
  have k2 : cx[(2 : Int).toNat]? = some (.int .u8 ((UInt8.ofNat (s.a.toNat / 256 ^ 1)).toNat : Int)) := by rw [← hcx]; rfl
  have k3 : cx[(3 : Int).toNat]? = some (.int .u8 ((UInt8.ofNat (s.a.toNat / 256 ^ 0)).toNat : Int)) := by rw [← hcx]; rfl
  have e0 : ((UInt8.ofNat (s.a.toNat / 256 ^ 3)).toNat : Int) = IntKind.u8.wrap ((shU s.a (24 : Int).toNat).toNat : Int) := by rw [shU_nat, wrap_u8, UInt8.toNat_ofNat']; rfl
  have e1 : ((UInt8.ofNat (s.a.toNat / 256 ^ 2)).toNat : Int) = IntKind.u8.wrap ((shU s.a (16 : Int).toNat).toNat : Int) := by rw [shU_nat, wrap_u8, UInt8.toNat_ofNat']; rfl
  have e2 : ((UInt8.ofNat (s.a.toNat / 256 ^ 1)).toNat : Int) = IntKind.u8.wrap ((shU s.a (8 : Int).toNat).toNat : Int) := by rw [shU_nat, wrap_u8, UInt8.toNat_ofNat']; rfl
  have e3 : ((UInt8.ofNat (s.a.toNat / 256 ^ 0)).toNat : Int) = IntKind.u8.wrap (s.a.toNat : Int) := by rw [wrap_u8, UInt8.toNat_ofNat', Nat.pow_zero, Nat.div_one]
  rw [hcx] at hb
  clear hcx
  refine go_ShaW (k := ?_)
  exact bodyE_ret1 rfl (.bool true) rfl ⟨rfl, hx⟩
/-- One word of a tag, from the computation. -/
theorem fst_of {l : List UInt8} {a b c d e f g h : Nat} (hs : shaF l (fun a b c d e f g h => [a, b, c, d, e, f, g, h]) = [a, b, c, d, e, f, g, h]) : (shaN l).a.toNat = a ∧ (shaN l).h.toNat = h := by
  rw [shaF_eq] at hs
  simp only [give, List.cons.injEq] at hs
  exact ⟨hs.1, hs.2.2.2.2.2.2.2.1⟩
theorem last_of {l : List UInt8} {n : Nat} (h : (shaN l).h.toNat = n) : ((shaL l).map bv).toArray[31]? = some (.int .u8 ((UInt8.ofNat n).toNat : Int)) := by
  have h1 : ((shaL l).map bv).toArray[31]? = some (.int .u8 ((UInt8.ofNat ((shaN l).h.toNat / 256 ^ 0)).toNat : Int)) := rfl
  rw [h1, h, Nat.pow_zero, Nat.div_one]
def abcd : List UInt8 := [97, 98, 99, 100, 98, 99, 100, 101, 99, 100, 101, 102, 100, 101, 102, 103, 101, 102, 103, 104, 102, 103, 104, 105, 103, 104, 105, 106, 104, 105, 106, 107, 105, 106, 107, 108, 106, 107, 108, 109, 107, 108, 109, 110, 108, 109, 110, 111, 109, 110, 111, 112, 110, 111, 112, 113]
theorem bs_conv {w : World} {g : Nat} {l : List UInt8} (h : Rd w (some ⟨g, 0, none⟩) (l.map bv).toArray.toList) : Bs w (some ⟨g, 0, none⟩) l := h
set_option maxRecDepth 4000 in
set_option maxHeartbeats 8000000 in
theorem awake_any (w : World) : Calls Try.prog 19 #[] w (RetV w (.bool true)) := by
  refine calls_of_CW Try.func19 rfl (by simp [Try.ntmps19]) ?_
  rw [Try.ntmps19]
  refine go_ShaW (k := ?_)
  refine OW_callV Try.func14 (by kernel_rfl) rfl (shaSum_any w none 0 [] (Bs.nil _ _) (by decide)) rfl ?_
  intro w1 hx1
  refine go_ShaW (k := ?_)
  refine OW_callV Try.func33 (by kernel_rfl) rfl (begins_true w1 (shaN [])) (by rw [nat_u32_ofNat (fst_of sha_empty).1]; rfl) ?_
  intro w2 hx2
  refine go_ShaW (k := ?_)
  refine OW_lit (([97, 98, 99] : List UInt8).map bv) und_bytes info_u8 rfl rfl (bv_one _) (by decide) ?_
  intro w3 g3 hb3 hg3 hx3
  refine go_ShaW (k := ?_)
  refine OW_convB und_bytes und_u8 rfl hb3 ?_
  intro w4 hr4 hgr4
  have hx02 := hx1.trans' hx2
  have hx04 : Ext w w4 := below_only (hx02.trans' hx3) hgr4 (by have := hx02.size; omega) (hx02.trans' hx3).size
  refine go_ShaW (k := ?_)
  refine OW_callV Try.func14 (by kernel_rfl) rfl (shaSum_any w4 (some ⟨g3, 0, none⟩) 3 [97, 98, 99] hr4 (by decide)) rfl ?_
  intro w5 hx5
  refine go_ShaW (k := ?_)
  refine OW_callV Try.func33 (by kernel_rfl) rfl (begins_true w5 (shaN [97, 98, 99])) (by rw [nat_u32_ofNat (fst_of sha_abc).1]; rfl) ?_
  intro w6 hx6
  refine go_ShaW (k := ?_)
  refine OW_lit (abcd.map bv) und_bytes info_u8 (by kernel_rfl) rfl (bv_one _) (by decide) ?_
  intro w7 g7 hb7 hg7 hx7
  refine go_ShaW (k := ?_)
  refine OW_convB und_bytes und_u8 rfl hb7 ?_
  intro w8 hr8 hgr8
  have hx06 := (hx04.trans' hx5).trans' hx6
  have hx08 : Ext w w8 := below_only (hx06.trans' hx7) hgr8 (by have := hx06.size; omega) (hx06.trans' hx7).size
  refine go_ShaW (k := ?_)
  refine OW_callV Try.func14 (by kernel_rfl) rfl (shaSum_any w8 (some ⟨g7, 0, none⟩) 56 abcd hr8 (by decide)) rfl ?_
  intro w9 hx9
  refine go_ShaW (k := ?_)
  refine OW_callV Try.func33 (by kernel_rfl) rfl (begins_true w9 (shaN abcd)) (by rw [nat_u32_ofNat (show (shaN abcd).a.toNat = 0x248d6a61 from (fst_of sha_abcd).1)]; rfl) ?_
  intro w10 hx10
  refine go_ShaW (k := ?_)
  refine OW_callV Try.func14 (by kernel_rfl) rfl (shaSum_any w10 none 0 [] (Bs.nil _ _) (by decide)) rfl ?_
  intro w11 hx11
  refine go_ShaW (k := ?_)
  refine OW_indexA s_und_Tag one_u8 rfl rfl 31 rfl (by decide) _ (last_of (fst_of sha_empty).2) ?_
  refine go_ShaW (k := ?_)
  rw [show (((UInt8.ofNat 0x7852b855).toNat : Int) == 85) = true by decide]
  refine go_ShaW (k := ?_)
  refine OW_lit (([97, 98, 99] : List UInt8).map bv) und_bytes info_u8 rfl rfl (bv_one _) (by decide) ?_
  intro w12 g12 hb12 hg12 hx12
  refine go_ShaW (k := ?_)
  refine OW_convB und_bytes und_u8 rfl hb12 ?_
  intro w13 hr13 hgr13
  have hx011 := (((hx08.trans' hx9).trans' hx10)).trans' hx11
  have hx013 : Ext w w13 := below_only (hx011.trans' hx12) hgr13 (by have := hx011.size; omega) (hx011.trans' hx12).size
  refine go_ShaW (k := ?_)
  refine OW_callV Try.func14 (by kernel_rfl) rfl (shaSum_any w13 (some ⟨g12, 0, none⟩) 3 [97, 98, 99] hr13 (by decide)) rfl ?_
  intro w14 hx14
  refine go_ShaW (k := ?_)
  refine OW_indexA s_und_Tag one_u8 rfl rfl 31 rfl (by decide) _ (last_of (fst_of sha_abc).2) ?_
  refine go_ShaW (k := ?_)
  rw [show (((UInt8.ofNat 0xf20015ad).toNat : Int) == 173) = true by decide]
  refine go_ShaW (k := ?_)
  exact bodyE_ret1 rfl (.bool true) rfl ⟨rfl, hx013.trans' hx14⟩
end Go.Proofs.Ytikkfpgbbenheaa
