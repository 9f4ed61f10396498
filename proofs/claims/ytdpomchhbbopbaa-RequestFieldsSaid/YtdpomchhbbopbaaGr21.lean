/- Several texts in one, as they stand in wip/src. -/
import Derived.Test.YtdpomchhbbopbaaGr5
import Derived.Test.YtdpomchhbbopbaaGr14
import Derived.Test.YtdpomchhbbopbaaGr15
import Derived.Test.YtdpomchhbbopbaaGr20
/- Walk: a request is read. -/
namespace Go.Proofs.Ytdpomchhbbopbaa
open Go Go.RowKit
set_option linter.unusedVariables false
set_option maxRecDepth 4000
theorem go_ReqR {A B : Prop} (h : Held B → A := by
  intro hEnd
  repeat (first | refine OW_fieldBL fldo_Q0 rfl ?_ | refine OW_fieldBL fldo_Q1 rfl ?_ | refine OW_fieldBL fldo_Q2 rfl ?_ | refine OW_fieldBL fldo_Q3 rfl ?_ | refine OW_fieldBL fldo_Q4 rfl ?_ | refine OW_fieldBL fldo_Q5 rfl ?_ | refine OW_fieldBL fldo_Q6 rfl ?_ | refine OW_fieldBL fldo_Q7 rfl ?_ | refine OW_fieldBL fldo_Q8 rfl ?_ | refine OW_fieldBL fldo_Q9 rfl ?_ | refine OW_fieldG fldo_G0 rfl ?_ | refine OW_fieldG fldo_G1 rfl ?_ | refine OW_fieldG fldo_G2 rfl ?_ | refine OW_fieldBL fldo_G0 rfl ?_ | refine OW_fieldBL fldo_G1 rfl ?_ | refine OW_fieldBL fldo_G2 rfl ?_ | refine OW_nilCheck rfl ?_ | refine OW_lenL und_string rfl ?_ | refine OW_eqlE rfl rfl ?_ | refine OW_moveV (.int _ _) rfl ?_ | refine OW_moveV (.slice _ _ _) rfl ?_ | refine OW_moveV (.bool _) rfl ?_ | refine OW_moveV (.pointer _) rfl ?_ | refine OW_moveV (.string _) rfl ?_ | refine OW_moveV (.agg _) rfl ?_ | refine OW_moveV (.tuple _) rfl ?_ | refine OW_nil ?_ | refine thenE_normal ?_ | refine CW_seq ?_ | refine CW_region (by kernel_rfl) ?_ | refine OW_assignV (.int _ _) rfl ?_ | refine OW_assignV (.slice _ _ _) rfl ?_ | refine OW_assignV (.bool _) rfl ?_ | refine OW_assignV (.pointer _) rfl ?_ | refine OW_assignV (.string _) rfl ?_ | refine OW_assignV (.agg _) rfl ?_ | refine OW_assignV (.tuple _) rfl ?_ | refine OW_addI rfl rfl (by omega) ?_ | refine OW_subI rfl rfl (by omega) ?_ | refine OW_mulI rfl rfl (by omega) ?_ | refine OW_lss rfl rfl ?_ | refine OW_extract rfl rfl ?_ | refine OW_gtr rfl rfl ?_ | refine OW_leq rfl rfl ?_ | refine OW_geq rfl rfl ?_ | refine OW_eql rfl rfl ?_ | refine OW_neq rfl rfl ?_ | refine OW_not rfl ?_ | refine OW_pickT rfl _ rfl ?_ | refine OW_pickF rfl (.bool _) rfl ?_ | refine OW_pickB rfl rfl rfl ?_ | refine OW_move ?_ | refine OW_assign ?_ | refine OW_pass rfl ?_ | refine OW_take rfl ?_ | refine OW_lenS (by first | with_reducible exact und_bytes | with_reducible exact und_bytess) rfl ?_ | refine OW_convInt (by first | with_reducible exact und_u8 | with_reducible exact und_u64 | with_reducible exact und_int | with_reducible exact und_u32) (by first | with_reducible exact und_u8 | with_reducible exact und_u64 | with_reducible exact und_int | with_reducible exact und_u32) rfl ?_ | refine OW_add rfl rfl ?_ | refine OW_sub rfl rfl ?_ | refine OW_mul rfl rfl ?_ | refine OW_min2 rfl rfl ?_ | refine OW_max2 rfl rfl ?_ | refine OW_neg rfl ?_ | refine CW_block ?_ | refine CW_condT rfl ?_ | refine CW_condF rfl ?_ | refine CW_exit ?_ | refine CW_ret ?_ | refine CW_skip ?_ | refine LW_seq ?_ | refine LW_regC ?_ | refine LW_condC ?_ | refine LW_regF ?_ | refine LW_condF ?_ | refine FW_seq ?_ | refine FW_region (by kernel_rfl) ?_ | refine FW_block ?_ | refine FW_condT rfl ?_ | refine FW_condF rfl ?_ | refine FW_exit ?_ | refine FW_ret ?_ | refine FW_skip ?_ | refine LW_ret ?_ | refine LW_skip ?_ | refine thenE_exit ?_ | refine thenE_ret ?_ | refine inBlockE_normal ?_ | refine inBlockE_same ?_ | refine inBlockE_ret ?_ | refine inBlockE_ne (by rfl) ?_ | refine OW_eqlB (by with_reducible exact und_bool) rfl rfl ?_ | refine OW_neqB (by with_reducible exact und_bool) rfl rfl ?_ | refine OW_idxS (by with_reducible exact und_bytes) one_u8 rfl rfl _ rfl (by omega) ?_ | refine OW_idxS (by with_reducible exact und_bytess) one_bytes rfl rfl _ rfl (by omega) ?_ | refine OW_load1 (by first | with_reducible exact one_u8 | with_reducible exact one_bytes) rfl _ (by assumption) ?_ | (refine OW_isLoad ?_; refine OW_loadBk (by first | with_reducible exact one_u8 | with_reducible exact one_int | with_reducible exact one_str | with_reducible exact one_bytes) rfl (by assumption) _ (by rfl) ?_))
  exact hEnd.out) (k : B) : A := h ⟨k⟩
/-- What Parse comes to. -/
def ParQ (w : World) (q : QR) (n : Int) : Ending → World → Prop := fun en w' => ∃ B d, en = .returned (.tuple #[.agg (qcells q (.slice B q.token.length d)).toArray, .int .i64 n]) ∧ w'.ownsRow w.heap.size 5 1 (.slice B q.token.length d) q.token.length (q.token.map bv) ∧ Ext w w'
theorem bld_Q0 : ∀ w, (Instr.build 39 [].toArray).run Try.prog w = .ok (.agg (qcells q0 (.slice none 0 0)).toArray) w := fun w => by kernel_rfl
theorem bld_G3 (a : UInt8) (b c : Int) : ∀ w, (Instr.build 37 [(0, bv a), (1, .int .i64 b), (2, .int .i64 c)].toArray).run Try.prog w = .ok (.agg (gcells ⟨a, b, c⟩).toArray) w := fun w => by kernel_rfl
theorem bld_Q12 (op : UInt8) (A : Option Addr) (l d : Nat) (k v o : List UInt8) (n t ks sp : Int) (r : UInt8) (e s : Int) : ∀ w, (Instr.build 39 [(0, bv op), (1, .slice A l d), (2, stv k), (3, stv v), (4, stv o), (5, .int .i64 n), (6, .int .i64 t), (7, .int .i64 ks), (8, .int .i64 sp), (9, .agg (gcells ⟨r, e, s⟩).toArray)].toArray).run Try.prog w = .ok (.agg (qcells ⟨op, [], k, v, o, n, t, ks, sp, r, e, s⟩ (.slice A l d)).toArray) w := fun w => by kernel_rfl
theorem zeroQ {w u : World} (hx : Ext w u) (n : Int) : ParQ w q0 n (.returned (.tuple #[.agg (qcells q0 (.slice none 0 0)).toArray, .int .i64 n])) u := ⟨none, 0, rfl, World.ownsRow_nil _ _ _ _, hx⟩
theorem parQ_long {b : List UInt8} (h : 1024 < b.length) : parQ b = q0 ∧ parQE b = 3 := by
  unfold parQ parQE
  have h1 : decide (b.length ≤ 1024) = false := decide_eq_false (by omega)
  rw [h1, if_neg (show ¬ b.length ≤ 1024 by omega)]
  exact ⟨rfl, rfl⟩
theorem parQ_short {b : List UInt8} (h : b.length ≤ 1024) : parQ b = (if decide (endE (endRq b) = 0) && mayQ (readRq b) then readRq b else q0) ∧ parQE b = (if decide (endE (endRq b) = 0) && mayQ (readRq b) then 0 else 150) := by
  unfold parQ parQE
  rw [decide_eq_true h, if_pos h]
  exact ⟨rfl, rfl⟩
theorem rdI_of (s : ST) : (if fits s 8 = true then i64L (s.1.take 8) else 0) = rdI s := rfl
theorem rdB_of (s : ST) : (if fits s 1 = true then s.1.headD 0 else 0) = rdB s := rfl
set_option maxHeartbeats 8000000 in
theorem ParseReq_any (w : World) (A : Option Addr) (c : Nat) (b : List UInt8) (hb : Bs w A b) (hc : b.length ≤ c) (hl : b.length ≤ 65536) : Calls Try.prog 44 #[.slice A b.length c] w (ParQ w (parQ b) (parQE b)) := by
  refine calls_of_CW Try.func44 rfl (by simp [Try.ntmps44]) ?_
  rw [Try.ntmps44]
  refine go_ReqR (k := ?_)
  refine OW_allocA agg_Req ?_
  intro w1 g1 hb1 hg1 hlt1 hx1
  refine go_ReqR (k := ?_)
  refine CW_cond _ rfl (fun hh => ?_) (fun hh => ?_)
  · obtain ⟨e1, e2⟩ := parQ_long (b := b) (by have := of_decide_eq_true hh; omega)
    rw [e1, e2]
    refine go_ReqR (k := ?_)
    refine OW_build _ _ bld_Q0 rfl ?_
    refine go_ReqR (k := ?_)
    refine OW_storeA agg_Req rfl (qcells q0 (.slice none 0 0)) rfl rfl hb1 (by kernel_rfl) (qcells_one q0 none 0 0) ?_
    intro w2 hb2 hg2
    have hx2 : Ext w w2 := (Keeps.of_only (S := (· = g1)) hg2 rfl).ext hx1 (fun j hj => by have hj : j = g1 := hj; omega)
    refine go_ReqR (k := ?_)
    exact bodyE_retc2 rfl agg_Req rfl (qcells q0 (.slice none 0 0)) (.int .i64 3) rfl rfl (Blk.range hb2) (zeroQ hx2 3)
  have hs : b.length ≤ 1024 := by have := of_decide_eq_false hh; omega
  clear hh
  have hpq := parQ_short hs
  refine go_ReqR (k := ?_)
  refine OW_callC Try.func49 (by kernel_rfl) rfl (newReader_own w1 A b c (hb.ext hx1) hl) rfl ?_
  rintro en w2 ⟨gr, S, rfl, hx2, hR2, hS1, hS2⟩
  refine ⟨_, rfl, ?_⟩
  have hin := hR2.in_
  have lgr := hS1 _ hin
  have ugr := hS2 _ hin
  have n1 : ¬ g1 = gr := by omega
  have hB : Blk w2 g1 39 (qcells q0 (.slice none 0 0)).toArray := hb1.ext hx2
  have hx02 := hx1.trans' hx2
  have ext_r : ∀ {u v : World}, Ext w u → Keeps u v (· = gr) → Ext w v := fun h k => k.ext h (fun j hj => by have hj : j = gr := hj; have := hx1.size; omega)
  clear hb1
  have hR := hR2
  have hx := hx02
  have hsz : w.heap.size ≤ w2.heap.size := hx.size
  clear hR2 hx02
  refine go_ReqR (k := ?_)
  refine OW_callC Try.func33 (by kernel_rfl) rfl (rByte_any w2 gr S _ hR) rfl ?_
  rintro en w3 ⟨rfl, hR', hk⟩
  refine ⟨_, rfl, ?_⟩
  obtain ⟨t1, ht1⟩ : ∃ t, s1 (b, (0 : Int)) = t := ⟨_, rfl⟩
  replace hR : RR w3 gr S t1 := by rw [← ht1]; exact hR'
  clear hR'
  replace hx := ext_r hx hk
  replace hsz : w.heap.size ≤ w3.heap.size := hx.size
  replace hB := hB.keeps hk n1
  rw [rdB_of]
  obtain ⟨x0, hv0⟩ : ∃ x, rdB (b, (0 : Int)) = x := ⟨_, rfl⟩
  rw [hv0]
  have z3 := hk.size
  clear hk
  refine go_ReqR (k := ?_)
  refine OW_callC Try.func36 (by kernel_rfl) rfl (rBytes_any w3 gr S _ hR) rfl ?_
  rintro en w4 ⟨A4, c4, rfl, ho4, hR', hk⟩
  refine ⟨_, rfl, ?_⟩
  obtain ⟨t2, ht2⟩ : ∃ t, bytesS t1 = t := ⟨_, rfl⟩
  replace hR : RR w4 gr S t2 := by rw [← ht2]; exact hR'
  clear hR'
  replace hx := ext_r hx hk
  replace hsz : w.heap.size ≤ w4.heap.size := hx.size
  replace hB := hB.keeps hk n1
  obtain ⟨x1, hv1⟩ : ∃ x, bytesV t1 = x := ⟨_, rfl⟩
  rw [hv1] at ho4 ⊢
  have hT := ho4
  have hTb : ∀ ad, A4 = some ad → w3.heap.size ≤ ad.block := fun ad ha => (own_block ho4 ad ha).1
  clear ho4
  have hTg : gr < w3.heap.size := hR.bd _ hin |> fun h => by have := hk.size; exact Nat.lt_of_lt_of_le (Nat.lt_of_lt_of_le ugr (by omega)) (Nat.le_refl _)
  have z4 := hk.size
  clear hk
  refine go_ReqR (k := ?_)
  refine OW_callC Try.func37 (by kernel_rfl) rfl (rText_any w4 gr S _ hR) rfl ?_
  rintro en w5 ⟨rfl, hR', hk⟩
  refine ⟨_, rfl, ?_⟩
  obtain ⟨t3, ht3⟩ : ∃ t, bytesS t2 = t := ⟨_, rfl⟩
  replace hR : RR w5 gr S t3 := by rw [← ht3]; exact hR'
  clear hR'
  replace hx := ext_r hx hk
  replace hsz : w.heap.size ≤ w5.heap.size := hx.size
  replace hB := hB.keeps hk n1
  replace hT := own_keeps hT hk (fun ad ha hh => by have hh : ad.block = gr := hh; have := (own_block hT ad ha).1; omega)
  obtain ⟨x2, hv2⟩ : ∃ x, bytesV t2 = x := ⟨_, rfl⟩
  rw [show (Value.string ⟨(bytesV t2).toArray⟩) = stv (bytesV t2) from rfl, hv2]
  have z5 := hk.size
  clear hk
  refine go_ReqR (k := ?_)
  refine OW_callC Try.func37 (by kernel_rfl) rfl (rText_any w5 gr S _ hR) rfl ?_
  rintro en w6 ⟨rfl, hR', hk⟩
  refine ⟨_, rfl, ?_⟩
  obtain ⟨t4, ht4⟩ : ∃ t, bytesS t3 = t := ⟨_, rfl⟩
  replace hR : RR w6 gr S t4 := by rw [← ht4]; exact hR'
  clear hR'
  replace hx := ext_r hx hk
  replace hsz : w.heap.size ≤ w6.heap.size := hx.size
  replace hB := hB.keeps hk n1
  replace hT := own_keeps hT hk (fun ad ha hh => by have hh : ad.block = gr := hh; have := (own_block hT ad ha).1; omega)
  obtain ⟨x3, hv3⟩ : ∃ x, bytesV t3 = x := ⟨_, rfl⟩
  rw [show (Value.string ⟨(bytesV t3).toArray⟩) = stv (bytesV t3) from rfl, hv3]
  have z6 := hk.size
  clear hk
  refine go_ReqR (k := ?_)
  refine OW_callC Try.func37 (by kernel_rfl) rfl (rText_any w6 gr S _ hR) rfl ?_
  rintro en w7 ⟨rfl, hR', hk⟩
  refine ⟨_, rfl, ?_⟩
  obtain ⟨t5, ht5⟩ : ∃ t, bytesS t4 = t := ⟨_, rfl⟩
  replace hR : RR w7 gr S t5 := by rw [← ht5]; exact hR'
  clear hR'
  replace hx := ext_r hx hk
  replace hsz : w.heap.size ≤ w7.heap.size := hx.size
  replace hB := hB.keeps hk n1
  replace hT := own_keeps hT hk (fun ad ha hh => by have hh : ad.block = gr := hh; have := (own_block hT ad ha).1; omega)
  obtain ⟨x4, hv4⟩ : ∃ x, bytesV t4 = x := ⟨_, rfl⟩
  rw [show (Value.string ⟨(bytesV t4).toArray⟩) = stv (bytesV t4) from rfl, hv4]
  have z7 := hk.size
  clear hk
  refine go_ReqR (k := ?_)
  refine OW_callC Try.func34 (by kernel_rfl) rfl (rInt_any w7 gr S _ hR) rfl ?_
  rintro en w8 ⟨rfl, hR', hk⟩
  refine ⟨_, rfl, ?_⟩
  obtain ⟨t6, ht6⟩ : ∃ t, s8 t5 = t := ⟨_, rfl⟩
  replace hR : RR w8 gr S t6 := by rw [← ht6]; exact hR'
  clear hR'
  replace hx := ext_r hx hk
  replace hsz : w.heap.size ≤ w8.heap.size := hx.size
  replace hB := hB.keeps hk n1
  replace hT := own_keeps hT hk (fun ad ha hh => by have hh : ad.block = gr := hh; have := (own_block hT ad ha).1; omega)
  rw [rdI_of]
  obtain ⟨x5, hv5⟩ : ∃ x, rdI t5 = x := ⟨_, rfl⟩
  rw [hv5]
  have z8 := hk.size
  clear hk
  refine go_ReqR (k := ?_)
  refine OW_callC Try.func34 (by kernel_rfl) rfl (rInt_any w8 gr S _ hR) rfl ?_
  rintro en w9 ⟨rfl, hR', hk⟩
  refine ⟨_, rfl, ?_⟩
  obtain ⟨t7, ht7⟩ : ∃ t, s8 t6 = t := ⟨_, rfl⟩
  replace hR : RR w9 gr S t7 := by rw [← ht7]; exact hR'
  clear hR'
  replace hx := ext_r hx hk
  replace hsz : w.heap.size ≤ w9.heap.size := hx.size
  replace hB := hB.keeps hk n1
  replace hT := own_keeps hT hk (fun ad ha hh => by have hh : ad.block = gr := hh; have := (own_block hT ad ha).1; omega)
  rw [rdI_of]
  obtain ⟨x6, hv6⟩ : ∃ x, rdI t6 = x := ⟨_, rfl⟩
  rw [hv6]
  have z9 := hk.size
  clear hk
  refine go_ReqR (k := ?_)
  refine OW_callC Try.func34 (by kernel_rfl) rfl (rInt_any w9 gr S _ hR) rfl ?_
  rintro en w10 ⟨rfl, hR', hk⟩
  refine ⟨_, rfl, ?_⟩
  obtain ⟨t8, ht8⟩ : ∃ t, s8 t7 = t := ⟨_, rfl⟩
  replace hR : RR w10 gr S t8 := by rw [← ht8]; exact hR'
  clear hR'
  replace hx := ext_r hx hk
  replace hsz : w.heap.size ≤ w10.heap.size := hx.size
  replace hB := hB.keeps hk n1
  replace hT := own_keeps hT hk (fun ad ha hh => by have hh : ad.block = gr := hh; have := (own_block hT ad ha).1; omega)
  rw [rdI_of]
  obtain ⟨x7, hv7⟩ : ∃ x, rdI t7 = x := ⟨_, rfl⟩
  rw [hv7]
  have z10 := hk.size
  clear hk
  refine go_ReqR (k := ?_)
  refine OW_callC Try.func34 (by kernel_rfl) rfl (rInt_any w10 gr S _ hR) rfl ?_
  rintro en w11 ⟨rfl, hR', hk⟩
  refine ⟨_, rfl, ?_⟩
  obtain ⟨t9, ht9⟩ : ∃ t, s8 t8 = t := ⟨_, rfl⟩
  replace hR : RR w11 gr S t9 := by rw [← ht9]; exact hR'
  clear hR'
  replace hx := ext_r hx hk
  replace hsz : w.heap.size ≤ w11.heap.size := hx.size
  replace hB := hB.keeps hk n1
  replace hT := own_keeps hT hk (fun ad ha hh => by have hh : ad.block = gr := hh; have := (own_block hT ad ha).1; omega)
  rw [rdI_of]
  obtain ⟨x8, hv8⟩ : ∃ x, rdI t8 = x := ⟨_, rfl⟩
  rw [hv8]
  have z11 := hk.size
  clear hk
  refine go_ReqR (k := ?_)
  refine OW_callC Try.func33 (by kernel_rfl) rfl (rByte_any w11 gr S _ hR) rfl ?_
  rintro en w12 ⟨rfl, hR', hk⟩
  refine ⟨_, rfl, ?_⟩
  obtain ⟨t10, ht10⟩ : ∃ t, s1 t9 = t := ⟨_, rfl⟩
  replace hR : RR w12 gr S t10 := by rw [← ht10]; exact hR'
  clear hR'
  replace hx := ext_r hx hk
  replace hsz : w.heap.size ≤ w12.heap.size := hx.size
  replace hB := hB.keeps hk n1
  replace hT := own_keeps hT hk (fun ad ha hh => by have hh : ad.block = gr := hh; have := (own_block hT ad ha).1; omega)
  rw [rdB_of]
  obtain ⟨x9, hv9⟩ : ∃ x, rdB t9 = x := ⟨_, rfl⟩
  rw [hv9]
  have z12 := hk.size
  clear hk
  refine go_ReqR (k := ?_)
  refine OW_callC Try.func34 (by kernel_rfl) rfl (rInt_any w12 gr S _ hR) rfl ?_
  rintro en w13 ⟨rfl, hR', hk⟩
  refine ⟨_, rfl, ?_⟩
  obtain ⟨t11, ht11⟩ : ∃ t, s8 t10 = t := ⟨_, rfl⟩
  replace hR : RR w13 gr S t11 := by rw [← ht11]; exact hR'
  clear hR'
  replace hx := ext_r hx hk
  replace hsz : w.heap.size ≤ w13.heap.size := hx.size
  replace hB := hB.keeps hk n1
  replace hT := own_keeps hT hk (fun ad ha hh => by have hh : ad.block = gr := hh; have := (own_block hT ad ha).1; omega)
  rw [rdI_of]
  obtain ⟨x10, hv10⟩ : ∃ x, rdI t10 = x := ⟨_, rfl⟩
  rw [hv10]
  have z13 := hk.size
  clear hk
  refine go_ReqR (k := ?_)
  refine OW_callC Try.func34 (by kernel_rfl) rfl (rInt_any w13 gr S _ hR) rfl ?_
  rintro en w14 ⟨rfl, hR', hk⟩
  refine ⟨_, rfl, ?_⟩
  obtain ⟨t12, ht12⟩ : ∃ t, s8 t11 = t := ⟨_, rfl⟩
  replace hR : RR w14 gr S t12 := by rw [← ht12]; exact hR'
  clear hR'
  replace hx := ext_r hx hk
  replace hsz : w.heap.size ≤ w14.heap.size := hx.size
  replace hB := hB.keeps hk n1
  replace hT := own_keeps hT hk (fun ad ha hh => by have hh : ad.block = gr := hh; have := (own_block hT ad ha).1; omega)
  rw [rdI_of]
  obtain ⟨x11, hv11⟩ : ∃ x, rdI t11 = x := ⟨_, rfl⟩
  rw [hv11]
  have z14 := hk.size
  clear hk
  have hrq : readRq b = ⟨x0, x1, x2, x3, x4, x5, x6, x7, x8, x9, x10, x11⟩ := by
    unfold readRq q9 q5 q2
    simp only [hv0, ht1, hv1, ht2, hv2, ht3, hv3, ht4, hv4, ht5, hv5, ht6, hv6, ht7, hv7, ht8, hv8, ht9, hv9, ht10, hv10, ht11, hv11, ht12]
  have hen : endRq b = t12 := by
    unfold endRq q9 q5 q2
    simp only [ht1, ht2, ht3, ht4, ht5, ht6, ht7, ht8, ht9, ht10, ht11, ht12]
  rw [hrq, hen] at hpq
  have hI : I64 x10 ∧ I64 x11 := ⟨hv10 ▸ rdI_i64 _, hv11 ▸ rdI_i64 _⟩
  clear hv0 ht1 hv1 ht2 hv2 ht3 hv3 ht4 hv4 ht5 hv5 ht6 hv6 ht7 hv7 ht8 hv8 ht9 hv9 ht10 hv10 ht11 hv11 ht12
  obtain ⟨q, hq⟩ : ∃ q : QR, q = ⟨x0, x1, x2, x3, x4, x5, x6, x7, x8, x9, x10, x11⟩ := ⟨_, rfl⟩
  rw [← hq] at hpq
  have hT : w14.ownsRow w3.heap.size 5 1 (.slice A4 q.token.length c4) q.token.length (q.token.map bv) := by rw [hq]; exact hT
  have hIq : I64 q.expiry ∧ I64 q.serial := by rw [hq]; exact hI
  obtain ⟨e1, e2⟩ := hpq
  rw [e1, e2]
  refine go_ReqR (k := ?_)
  refine OW_build _ _ (bld_G3 x9 x10 x11) rfl ?_
  refine go_ReqR (k := ?_)
  refine OW_build _ _ (bld_Q12 x0 A4 x1.length c4 x2 x3 x4 x5 x6 x7 x8 x9 x10 x11) rfl ?_
  rw [show qcells ⟨x0, [], x2, x3, x4, x5, x6, x7, x8, x9, x10, x11⟩ (.slice A4 x1.length c4) = qcells q (.slice A4 q.token.length c4) from by rw [hq]; rfl]
  refine go_ReqR (k := ?_)
  refine OW_allocA agg_Req ?_
  intro v1 g5 hb5 hg5 hlt5 hxa
  refine go_ReqR (k := ?_)
  refine OW_storeA agg_Req rfl (qcells q (.slice A4 q.token.length c4)) rfl rfl hb5 (by kernel_rfl) (qcells_one q _ _ _) ?_
  intro v2 hB5 hgs
  have hka : Ext w14 v2 := (Keeps.of_only (S := (· = g5)) hgs rfl).ext hxa (fun j hj => by have hj : j = g5 := hj; omega)
  replace hB := hB.ext hka
  replace hR := hR.ext hka
  replace hT := own_ext hT hka
  replace hx := hx.trans' hka
  replace hB5 : Blk v2 g5 39 (qcells q (.slice A4 q.token.length c4)).toArray := hB5
  clear hb5 hgs
  refine go_ReqR (k := ?_)
  refine OW_callV Try.func42 (by kernel_rfl) rfl (rEnd_any v2 gr S _ hR) rfl ?_
  intro u1 hxu
  replace hx := hx.trans' hxu
  replace hB := hB.ext hxu
  replace hB5 := hB5.ext hxu
  replace hT := own_ext hT hxu
  clear hR
  refine go_ReqR (k := ?_)
  refine OW_split 41 _ rfl (fun hh => ?_) (fun hh => ?_)
  · have he : ¬ endE t12 = 0 := by simpa using hh
    rw [decide_eq_false he]
    refine go_ReqR (k := ?_)
    refine OW_build _ _ bld_Q0 rfl ?_
    refine go_ReqR (k := ?_)
    refine OW_storeA agg_Req rfl (qcells q0 (.slice none 0 0)) rfl rfl hB (by kernel_rfl) (qcells_one q0 none 0 0) ?_
    intro u2 hb22 hg22
    have hx22 : Ext w u2 := (Keeps.of_only (S := (· = g1)) hg22 rfl).ext hx (fun j hj => by have hj : j = g1 := hj; omega)
    refine go_ReqR (k := ?_)
    exact bodyE_retc2 rfl agg_Req rfl (qcells q0 (.slice none 0 0)) (.int .i64 150) rfl rfl (Blk.range hb22) (zeroQ hx22 150)
  have he : endE t12 = 0 := by simpa using hh
  rw [decide_eq_true he]
  clear hh
  refine go_ReqR (k := ?_)
  refine OW_loadX agg_Req rfl (qcells q (.slice A4 q.token.length c4)) rfl hB5.atL ?_
  refine go_ReqR (k := ?_)
  refine OW_callV Try.func25 (by kernel_rfl) rfl (may_any u1 A4 c4 q hIq) rfl ?_
  intro u2 hxv
  replace hx := hx.trans' hxv
  replace hB := hB.ext hxv
  replace hB5 := hB5.ext hxv
  replace hT := own_ext hT hxv
  cases hm : mayQ q with
  | false =>
    refine go_ReqR (k := ?_)
    refine OW_build _ _ bld_Q0 rfl ?_
    refine go_ReqR (k := ?_)
    refine OW_storeA agg_Req rfl (qcells q0 (.slice none 0 0)) rfl rfl hB (by kernel_rfl) (qcells_one q0 none 0 0) ?_
    intro u3 hb22 hg22
    have hx22 : Ext w u3 := (Keeps.of_only (S := (· = g1)) hg22 rfl).ext hx (fun j hj => by have hj : j = g1 := hj; omega)
    refine go_ReqR (k := ?_)
    exact bodyE_retc2 rfl agg_Req rfl (qcells q0 (.slice none 0 0)) (.int .i64 150) rfl rfl (Blk.range hb22) (zeroQ hx22 150)
  | true =>
    refine go_ReqR (k := ?_)
    refine OW_loadX agg_Req rfl (qcells q (.slice A4 q.token.length c4)) rfl hB5.atL ?_
    refine go_ReqR (k := ?_)
    refine OW_storeA agg_Req rfl (qcells q (.slice A4 q.token.length c4)) rfl rfl hB (by kernel_rfl) (qcells_one q _ _ _) ?_
    intro u3 hb23 hg23
    have hK23 : Keeps u2 u3 (· = g1) := Keeps.of_only hg23 rfl
    have hx23 : Ext w u3 := hK23.ext hx (fun j hj => by have hj : j = g1 := hj; omega)
    have hT23 := own_keeps hT hK23 (fun ad ha hh => by have hh : ad.block = g1 := hh; have := (own_block hT ad ha).1; omega)
    refine go_ReqR (k := ?_)
    exact bodyE_retc2 rfl agg_Req rfl (qcells q (.slice A4 q.token.length c4)) (.int .i64 0) rfl rfl (Blk.range hb23) ⟨A4, c4, rfl, own_mono hT23 (by omega), hx23⟩
end Go.Proofs.Ytdpomchhbbopbaa

/- Walk: the reference reads a request. -/
namespace Go.Proofs.Ytdpomchhbbopbaa
open Go Go.RowKit
set_option linter.unusedVariables false
set_option maxRecDepth 4000
theorem go_ReqU {A B : Prop} (h : Held B → A := by
  intro hEnd
  repeat (first | refine OW_fieldBL fldo_Q0 rfl ?_ | refine OW_fieldBL fldo_Q1 rfl ?_ | refine OW_fieldBL fldo_Q2 rfl ?_ | refine OW_fieldBL fldo_Q3 rfl ?_ | refine OW_fieldBL fldo_Q4 rfl ?_ | refine OW_fieldBL fldo_Q5 rfl ?_ | refine OW_fieldBL fldo_Q6 rfl ?_ | refine OW_fieldBL fldo_Q7 rfl ?_ | refine OW_fieldBL fldo_Q8 rfl ?_ | refine OW_fieldBL fldo_Q9 rfl ?_ | refine OW_fieldG fldo_G0 rfl ?_ | refine OW_fieldG fldo_G1 rfl ?_ | refine OW_fieldG fldo_G2 rfl ?_ | refine OW_fieldBL fldo_G0 rfl ?_ | refine OW_fieldBL fldo_G1 rfl ?_ | refine OW_fieldBL fldo_G2 rfl ?_ | refine OW_nilCheck rfl ?_ | refine OW_lenL und_string rfl ?_ | refine OW_eqlE rfl rfl ?_ | refine OW_moveV (.int _ _) rfl ?_ | refine OW_moveV (.slice _ _ _) rfl ?_ | refine OW_moveV (.bool _) rfl ?_ | refine OW_moveV (.pointer _) rfl ?_ | refine OW_moveV (.string _) rfl ?_ | refine OW_moveV (.agg _) rfl ?_ | refine OW_moveV (.tuple _) rfl ?_ | refine OW_nil ?_ | refine thenE_normal ?_ | refine CW_seq ?_ | refine CW_region (by kernel_rfl) ?_ | refine OW_assignV (.int _ _) rfl ?_ | refine OW_assignV (.slice _ _ _) rfl ?_ | refine OW_assignV (.bool _) rfl ?_ | refine OW_assignV (.pointer _) rfl ?_ | refine OW_assignV (.string _) rfl ?_ | refine OW_assignV (.agg _) rfl ?_ | refine OW_assignV (.tuple _) rfl ?_ | refine OW_addI rfl rfl (by omega) ?_ | refine OW_subI rfl rfl (by omega) ?_ | refine OW_mulI rfl rfl (by omega) ?_ | refine OW_lss rfl rfl ?_ | refine OW_extract rfl rfl ?_ | refine OW_gtr rfl rfl ?_ | refine OW_leq rfl rfl ?_ | refine OW_geq rfl rfl ?_ | refine OW_eql rfl rfl ?_ | refine OW_neq rfl rfl ?_ | refine OW_not rfl ?_ | refine OW_pickT rfl _ rfl ?_ | refine OW_pickF rfl (.bool _) rfl ?_ | refine OW_pickB rfl rfl rfl ?_ | refine OW_move ?_ | refine OW_assign ?_ | refine OW_pass rfl ?_ | refine OW_take rfl ?_ | refine OW_lenS (by first | with_reducible exact und_bytes | with_reducible exact und_bytess) rfl ?_ | refine OW_convInt (by first | with_reducible exact und_u8 | with_reducible exact und_u64 | with_reducible exact und_int | with_reducible exact und_u32) (by first | with_reducible exact und_u8 | with_reducible exact und_u64 | with_reducible exact und_int | with_reducible exact und_u32) rfl ?_ | refine OW_add rfl rfl ?_ | refine OW_sub rfl rfl ?_ | refine OW_mul rfl rfl ?_ | refine OW_min2 rfl rfl ?_ | refine OW_max2 rfl rfl ?_ | refine OW_neg rfl ?_ | refine CW_block ?_ | refine CW_condT rfl ?_ | refine CW_condF rfl ?_ | refine CW_exit ?_ | refine CW_ret ?_ | refine CW_skip ?_ | refine LW_seq ?_ | refine LW_regC ?_ | refine LW_condC ?_ | refine LW_regF ?_ | refine LW_condF ?_ | refine FW_seq ?_ | refine FW_region (by kernel_rfl) ?_ | refine FW_block ?_ | refine FW_condT rfl ?_ | refine FW_condF rfl ?_ | refine FW_exit ?_ | refine FW_ret ?_ | refine FW_skip ?_ | refine LW_ret ?_ | refine LW_skip ?_ | refine thenE_exit ?_ | refine thenE_ret ?_ | refine inBlockE_normal ?_ | refine inBlockE_same ?_ | refine inBlockE_ret ?_ | refine inBlockE_ne (by rfl) ?_ | refine OW_eqlB (by with_reducible exact und_bool) rfl rfl ?_ | refine OW_neqB (by with_reducible exact und_bool) rfl rfl ?_ | refine OW_idxS (by with_reducible exact und_bytes) one_u8 rfl rfl _ rfl (by omega) ?_ | refine OW_idxS (by with_reducible exact und_bytess) one_bytes rfl rfl _ rfl (by omega) ?_ | refine OW_load1 (by first | with_reducible exact one_u8 | with_reducible exact one_bytes) rfl _ (by assumption) ?_ | (refine OW_isLoad ?_; refine OW_loadBk (by first | with_reducible exact one_u8 | with_reducible exact one_int | with_reducible exact one_str | with_reducible exact one_bytes) rfl (by assumption) _ (by rfl) ?_))
  exact hEnd.out) (k : B) : A := h ⟨k⟩
set_option maxHeartbeats 8000000 in
theorem refParseReq_any (w : World) (A : Option Addr) (c : Nat) (b : List UInt8) (hb : Bs w A b) (hc : b.length ≤ c) (hl : b.length ≤ 65536) : Calls Try.prog 43 #[.slice A b.length c] w (ParQ w (parQ b) (parQE b)) := by
  refine calls_of_CW Try.func43 rfl (by simp [Try.ntmps43]) ?_
  rw [Try.ntmps43]
  refine go_ReqU (k := ?_)
  refine OW_allocA agg_Req ?_
  intro w1 g1 hb1 hg1 hlt1 hx1
  refine go_ReqU (k := ?_)
  refine CW_cond _ rfl (fun hh => ?_) (fun hh => ?_)
  · obtain ⟨e1, e2⟩ := parQ_long (b := b) (by have := of_decide_eq_true hh; omega)
    rw [e1, e2]
    refine go_ReqU (k := ?_)
    refine OW_build _ _ bld_Q0 rfl ?_
    refine go_ReqU (k := ?_)
    refine OW_storeA agg_Req rfl (qcells q0 (.slice none 0 0)) rfl rfl hb1 (by kernel_rfl) (qcells_one q0 none 0 0) ?_
    intro w2 hb2 hg2
    have hx2 : Ext w w2 := (Keeps.of_only (S := (· = g1)) hg2 rfl).ext hx1 (fun j hj => by have hj : j = g1 := hj; omega)
    refine go_ReqU (k := ?_)
    exact bodyE_retc2 rfl agg_Req rfl (qcells q0 (.slice none 0 0)) (.int .i64 3) rfl rfl (Blk.range hb2) (zeroQ hx2 3)
  have hs : b.length ≤ 1024 := by have := of_decide_eq_false hh; omega
  clear hh
  have hpq := parQ_short hs
  refine go_ReqU (k := ?_)
  refine OW_callC Try.func67 (by kernel_rfl) rfl (vNew_own w w1 hx1 A b c hb hc hl) rfl ?_
  rintro en w2 ⟨gr, S, rfl, hx2, hR2, lgr, hS1, hS2⟩
  refine ⟨_, rfl, ?_⟩
  have hin := hR2.in_
  have ugr := hS2 _ hin
  have n1 : ¬ g1 = gr := by omega
  have hB : Blk w2 g1 39 (qcells q0 (.slice none 0 0)).toArray := hb1.ext hx2
  have hx02 := hx1.trans' hx2
  have ext_r : ∀ {u v : World}, Ext w u → Keeps u v (· = gr) → Ext w v := fun h k => k.ext h (fun j hj => by have hj : j = gr := hj; have := hx1.size; omega)
  clear hb1
  refine go_ReqU (k := ?_)
  refine OW_allocA agg_Req ?_
  intro w3 g5 hb5 hg5 hlt5 hx3
  have n5 : ¬ g5 = gr := by omega
  have n15 : ¬ g1 = g5 := by have := hB.lt; omega
  have nS5 : ¬ S g5 := fun hh => by have := hS2 _ hh; omega
  replace hB := hB.ext hx3
  have hB5 : Blk w3 g5 39 (qcells ⟨0, [], [], [], [], 0, 0, 0, 0, 0, 0, 0⟩ (.slice none 0 0)).toArray := hb5
  replace hR2 := hR2.ext hx3
  replace hx02 := hx02.trans' hx3
  have s23 := hx3.size
  have ext_5 : ∀ {u v : World}, Ext w u → Keeps u v (· = g5) → Ext w v := fun h k => k.ext h (fun j hj => by have hj : j = g5 := hj; have := hx1.size; have := hx2.size; omega)
  clear hb5
  have hR := hR2
  have hx := hx02
  have hsz : w.heap.size ≤ w3.heap.size := hx.size
  clear hR2 hx02
  refine go_ReqU (k := ?_)
  refine OW_callC Try.func71 (by kernel_rfl) rfl (vByte_any w3 gr S _ hR) rfl ?_
  rintro en w4 ⟨rfl, hR', hk⟩
  refine ⟨_, rfl, ?_⟩
  obtain ⟨t1, ht1⟩ : ∃ t, s1 (b, (0 : Int)) = t := ⟨_, rfl⟩
  replace hR : VR w4 gr S t1 := by rw [← ht1]; exact hR'
  clear hR'
  replace hx := ext_r hx hk
  replace hsz : w.heap.size ≤ w4.heap.size := hx.size
  replace hB := hB.keeps hk n1
  replace hB5 := hB5.keeps hk n5
  rw [rdB_of]
  obtain ⟨x0, hv0⟩ : ∃ x, rdB (b, (0 : Int)) = x := ⟨_, rfl⟩
  rw [hv0]
  have z4 := hk.size
  clear hk
  refine go_ReqU (k := ?_)
  refine OW_storeB one_u8 rfl (bv x0) rfl rfl hB5 (by show 0 < 12; decide) ?_
  intro w5 hst hgs
  have hk : Keeps w4 w5 (· = g5) := Keeps.of_only hgs rfl
  replace hB5 : Blk w5 g5 39 (qcells ⟨x0, [], [], [], [], 0, 0, 0, 0, 0, 0, 0⟩ (.slice none 0 0)).toArray := hst
  replace hR := hR.keeps hk (fun k hk hh => by have hh : k = g5 := hh; exact nS5 (hh ▸ hk))
  replace hB := hB.keeps hk n15
  replace hx := ext_5 hx hk
  replace hsz : w.heap.size ≤ w5.heap.size := hx.size
  have z5 := hk.size
  clear hk hst hgs
  refine go_ReqU (k := ?_)
  refine OW_callC Try.func69 (by kernel_rfl) rfl (vBytes_any w5 gr S _ hR) rfl ?_
  rintro en w6 ⟨A6, c6, rfl, ho6, hR', hk⟩
  refine ⟨_, rfl, ?_⟩
  obtain ⟨t2, ht2⟩ : ∃ t, bytesS t1 = t := ⟨_, rfl⟩
  replace hR : VR w6 gr S t2 := by rw [← ht2]; exact hR'
  clear hR'
  replace hx := ext_r hx hk
  replace hsz : w.heap.size ≤ w6.heap.size := hx.size
  replace hB := hB.keeps hk n1
  replace hB5 := hB5.keeps hk n5
  obtain ⟨x1, hv1⟩ : ∃ x, bytesV t1 = x := ⟨_, rfl⟩
  rw [hv1] at ho6 ⊢
  have hT := ho6
  have hTb : ∀ ad, A6 = some ad → w5.heap.size ≤ ad.block := fun ad ha => (own_block ho6 ad ha).1
  clear ho6
  have hTg : gr < w5.heap.size := hR.bd _ hin |> fun h => by have := hk.size; exact Nat.lt_of_lt_of_le (Nat.lt_of_lt_of_le ugr (by omega)) (Nat.le_refl _)
  have z6 := hk.size
  clear hk
  refine go_ReqU (k := ?_)
  refine OW_storeB one_bytes rfl (.slice A6 x1.length c6) rfl rfl hB5 (by show 1 < 12; decide) ?_
  intro w7 hst hgs
  have hk : Keeps w6 w7 (· = g5) := Keeps.of_only hgs rfl
  replace hB5 : Blk w7 g5 39 (qcells ⟨x0, x1, [], [], [], 0, 0, 0, 0, 0, 0, 0⟩ (.slice A6 x1.length c6)).toArray := hst
  replace hR := hR.keeps hk (fun k hk hh => by have hh : k = g5 := hh; exact nS5 (hh ▸ hk))
  replace hB := hB.keeps hk n15
  replace hx := ext_5 hx hk
  replace hsz : w.heap.size ≤ w7.heap.size := hx.size
  replace hT := own_keeps hT hk (fun ad ha hh => by have hh : ad.block = g5 := hh; have := (own_block hT ad ha).1; omega)
  have z7 := hk.size
  clear hk hst hgs
  refine go_ReqU (k := ?_)
  refine OW_callC Try.func69 (by kernel_rfl) rfl (vBytes_any w7 gr S _ hR) rfl ?_
  rintro en w8 ⟨A8, c8, rfl, ho8, hR', hk⟩
  refine ⟨_, rfl, ?_⟩
  obtain ⟨t3, ht3⟩ : ∃ t, bytesS t2 = t := ⟨_, rfl⟩
  replace hR : VR w8 gr S t3 := by rw [← ht3]; exact hR'
  clear hR'
  replace hx := ext_r hx hk
  replace hsz : w.heap.size ≤ w8.heap.size := hx.size
  replace hB := hB.keeps hk n1
  replace hB5 := hB5.keeps hk n5
  replace hT := own_keeps hT hk (fun ad ha hh => by have hh : ad.block = gr := hh; have := (own_block hT ad ha).1; omega)
  obtain ⟨x2, hv2⟩ : ∃ x, bytesV t2 = x := ⟨_, rfl⟩
  refine go_ReqU (k := ?_)
  refine OW_strOf und_bytes und_u8 und_string (own_rd ho8) rfl ?_
  rw [show (Value.string ⟨(bytesV t2).toArray⟩) = stv (bytesV t2) from rfl, hv2]
  clear ho8
  have z8 := hk.size
  clear hk
  refine go_ReqU (k := ?_)
  refine OW_storeB one_str rfl (stv x2) rfl rfl hB5 (by show 2 < 12; decide) ?_
  intro w9 hst hgs
  have hk : Keeps w8 w9 (· = g5) := Keeps.of_only hgs rfl
  replace hB5 : Blk w9 g5 39 (qcells ⟨x0, x1, x2, [], [], 0, 0, 0, 0, 0, 0, 0⟩ (.slice A6 x1.length c6)).toArray := hst
  replace hR := hR.keeps hk (fun k hk hh => by have hh : k = g5 := hh; exact nS5 (hh ▸ hk))
  replace hB := hB.keeps hk n15
  replace hx := ext_5 hx hk
  replace hsz : w.heap.size ≤ w9.heap.size := hx.size
  replace hT := own_keeps hT hk (fun ad ha hh => by have hh : ad.block = g5 := hh; have := (own_block hT ad ha).1; omega)
  have z9 := hk.size
  clear hk hst hgs
  refine go_ReqU (k := ?_)
  refine OW_callC Try.func69 (by kernel_rfl) rfl (vBytes_any w9 gr S _ hR) rfl ?_
  rintro en w10 ⟨A10, c10, rfl, ho10, hR', hk⟩
  refine ⟨_, rfl, ?_⟩
  obtain ⟨t4, ht4⟩ : ∃ t, bytesS t3 = t := ⟨_, rfl⟩
  replace hR : VR w10 gr S t4 := by rw [← ht4]; exact hR'
  clear hR'
  replace hx := ext_r hx hk
  replace hsz : w.heap.size ≤ w10.heap.size := hx.size
  replace hB := hB.keeps hk n1
  replace hB5 := hB5.keeps hk n5
  replace hT := own_keeps hT hk (fun ad ha hh => by have hh : ad.block = gr := hh; have := (own_block hT ad ha).1; omega)
  obtain ⟨x3, hv3⟩ : ∃ x, bytesV t3 = x := ⟨_, rfl⟩
  refine go_ReqU (k := ?_)
  refine OW_strOf und_bytes und_u8 und_string (own_rd ho10) rfl ?_
  rw [show (Value.string ⟨(bytesV t3).toArray⟩) = stv (bytesV t3) from rfl, hv3]
  clear ho10
  have z10 := hk.size
  clear hk
  refine go_ReqU (k := ?_)
  refine OW_storeB one_str rfl (stv x3) rfl rfl hB5 (by show 3 < 12; decide) ?_
  intro w11 hst hgs
  have hk : Keeps w10 w11 (· = g5) := Keeps.of_only hgs rfl
  replace hB5 : Blk w11 g5 39 (qcells ⟨x0, x1, x2, x3, [], 0, 0, 0, 0, 0, 0, 0⟩ (.slice A6 x1.length c6)).toArray := hst
  replace hR := hR.keeps hk (fun k hk hh => by have hh : k = g5 := hh; exact nS5 (hh ▸ hk))
  replace hB := hB.keeps hk n15
  replace hx := ext_5 hx hk
  replace hsz : w.heap.size ≤ w11.heap.size := hx.size
  replace hT := own_keeps hT hk (fun ad ha hh => by have hh : ad.block = g5 := hh; have := (own_block hT ad ha).1; omega)
  have z11 := hk.size
  clear hk hst hgs
  refine go_ReqU (k := ?_)
  refine OW_callC Try.func69 (by kernel_rfl) rfl (vBytes_any w11 gr S _ hR) rfl ?_
  rintro en w12 ⟨A12, c12, rfl, ho12, hR', hk⟩
  refine ⟨_, rfl, ?_⟩
  obtain ⟨t5, ht5⟩ : ∃ t, bytesS t4 = t := ⟨_, rfl⟩
  replace hR : VR w12 gr S t5 := by rw [← ht5]; exact hR'
  clear hR'
  replace hx := ext_r hx hk
  replace hsz : w.heap.size ≤ w12.heap.size := hx.size
  replace hB := hB.keeps hk n1
  replace hB5 := hB5.keeps hk n5
  replace hT := own_keeps hT hk (fun ad ha hh => by have hh : ad.block = gr := hh; have := (own_block hT ad ha).1; omega)
  obtain ⟨x4, hv4⟩ : ∃ x, bytesV t4 = x := ⟨_, rfl⟩
  refine go_ReqU (k := ?_)
  refine OW_strOf und_bytes und_u8 und_string (own_rd ho12) rfl ?_
  rw [show (Value.string ⟨(bytesV t4).toArray⟩) = stv (bytesV t4) from rfl, hv4]
  clear ho12
  have z12 := hk.size
  clear hk
  refine go_ReqU (k := ?_)
  refine OW_storeB one_str rfl (stv x4) rfl rfl hB5 (by show 4 < 12; decide) ?_
  intro w13 hst hgs
  have hk : Keeps w12 w13 (· = g5) := Keeps.of_only hgs rfl
  replace hB5 : Blk w13 g5 39 (qcells ⟨x0, x1, x2, x3, x4, 0, 0, 0, 0, 0, 0, 0⟩ (.slice A6 x1.length c6)).toArray := hst
  replace hR := hR.keeps hk (fun k hk hh => by have hh : k = g5 := hh; exact nS5 (hh ▸ hk))
  replace hB := hB.keeps hk n15
  replace hx := ext_5 hx hk
  replace hsz : w.heap.size ≤ w13.heap.size := hx.size
  replace hT := own_keeps hT hk (fun ad ha hh => by have hh : ad.block = g5 := hh; have := (own_block hT ad ha).1; omega)
  have z13 := hk.size
  clear hk hst hgs
  refine go_ReqU (k := ?_)
  refine OW_callC Try.func68 (by kernel_rfl) rfl (vInt_any w13 gr S _ hR) rfl ?_
  rintro en w14 ⟨rfl, hR', hk⟩
  refine ⟨_, rfl, ?_⟩
  obtain ⟨t6, ht6⟩ : ∃ t, s8 t5 = t := ⟨_, rfl⟩
  replace hR : VR w14 gr S t6 := by rw [← ht6]; exact hR'
  clear hR'
  replace hx := ext_r hx hk
  replace hsz : w.heap.size ≤ w14.heap.size := hx.size
  replace hB := hB.keeps hk n1
  replace hB5 := hB5.keeps hk n5
  replace hT := own_keeps hT hk (fun ad ha hh => by have hh : ad.block = gr := hh; have := (own_block hT ad ha).1; omega)
  rw [rdI_of]
  obtain ⟨x5, hv5⟩ : ∃ x, rdI t5 = x := ⟨_, rfl⟩
  rw [hv5]
  have z14 := hk.size
  clear hk
  refine go_ReqU (k := ?_)
  refine OW_storeB one_int rfl (.int .i64 x5) rfl rfl hB5 (by show 5 < 12; decide) ?_
  intro w15 hst hgs
  have hk : Keeps w14 w15 (· = g5) := Keeps.of_only hgs rfl
  replace hB5 : Blk w15 g5 39 (qcells ⟨x0, x1, x2, x3, x4, x5, 0, 0, 0, 0, 0, 0⟩ (.slice A6 x1.length c6)).toArray := hst
  replace hR := hR.keeps hk (fun k hk hh => by have hh : k = g5 := hh; exact nS5 (hh ▸ hk))
  replace hB := hB.keeps hk n15
  replace hx := ext_5 hx hk
  replace hsz : w.heap.size ≤ w15.heap.size := hx.size
  replace hT := own_keeps hT hk (fun ad ha hh => by have hh : ad.block = g5 := hh; have := (own_block hT ad ha).1; omega)
  have z15 := hk.size
  clear hk hst hgs
  refine go_ReqU (k := ?_)
  refine OW_callC Try.func68 (by kernel_rfl) rfl (vInt_any w15 gr S _ hR) rfl ?_
  rintro en w16 ⟨rfl, hR', hk⟩
  refine ⟨_, rfl, ?_⟩
  obtain ⟨t7, ht7⟩ : ∃ t, s8 t6 = t := ⟨_, rfl⟩
  replace hR : VR w16 gr S t7 := by rw [← ht7]; exact hR'
  clear hR'
  replace hx := ext_r hx hk
  replace hsz : w.heap.size ≤ w16.heap.size := hx.size
  replace hB := hB.keeps hk n1
  replace hB5 := hB5.keeps hk n5
  replace hT := own_keeps hT hk (fun ad ha hh => by have hh : ad.block = gr := hh; have := (own_block hT ad ha).1; omega)
  rw [rdI_of]
  obtain ⟨x6, hv6⟩ : ∃ x, rdI t6 = x := ⟨_, rfl⟩
  rw [hv6]
  have z16 := hk.size
  clear hk
  refine go_ReqU (k := ?_)
  refine OW_storeB one_int rfl (.int .i64 x6) rfl rfl hB5 (by show 6 < 12; decide) ?_
  intro w17 hst hgs
  have hk : Keeps w16 w17 (· = g5) := Keeps.of_only hgs rfl
  replace hB5 : Blk w17 g5 39 (qcells ⟨x0, x1, x2, x3, x4, x5, x6, 0, 0, 0, 0, 0⟩ (.slice A6 x1.length c6)).toArray := hst
  replace hR := hR.keeps hk (fun k hk hh => by have hh : k = g5 := hh; exact nS5 (hh ▸ hk))
  replace hB := hB.keeps hk n15
  replace hx := ext_5 hx hk
  replace hsz : w.heap.size ≤ w17.heap.size := hx.size
  replace hT := own_keeps hT hk (fun ad ha hh => by have hh : ad.block = g5 := hh; have := (own_block hT ad ha).1; omega)
  have z17 := hk.size
  clear hk hst hgs
  refine go_ReqU (k := ?_)
  refine OW_callC Try.func68 (by kernel_rfl) rfl (vInt_any w17 gr S _ hR) rfl ?_
  rintro en w18 ⟨rfl, hR', hk⟩
  refine ⟨_, rfl, ?_⟩
  obtain ⟨t8, ht8⟩ : ∃ t, s8 t7 = t := ⟨_, rfl⟩
  replace hR : VR w18 gr S t8 := by rw [← ht8]; exact hR'
  clear hR'
  replace hx := ext_r hx hk
  replace hsz : w.heap.size ≤ w18.heap.size := hx.size
  replace hB := hB.keeps hk n1
  replace hB5 := hB5.keeps hk n5
  replace hT := own_keeps hT hk (fun ad ha hh => by have hh : ad.block = gr := hh; have := (own_block hT ad ha).1; omega)
  rw [rdI_of]
  obtain ⟨x7, hv7⟩ : ∃ x, rdI t7 = x := ⟨_, rfl⟩
  rw [hv7]
  have z18 := hk.size
  clear hk
  refine go_ReqU (k := ?_)
  refine OW_storeB one_int rfl (.int .i64 x7) rfl rfl hB5 (by show 7 < 12; decide) ?_
  intro w19 hst hgs
  have hk : Keeps w18 w19 (· = g5) := Keeps.of_only hgs rfl
  replace hB5 : Blk w19 g5 39 (qcells ⟨x0, x1, x2, x3, x4, x5, x6, x7, 0, 0, 0, 0⟩ (.slice A6 x1.length c6)).toArray := hst
  replace hR := hR.keeps hk (fun k hk hh => by have hh : k = g5 := hh; exact nS5 (hh ▸ hk))
  replace hB := hB.keeps hk n15
  replace hx := ext_5 hx hk
  replace hsz : w.heap.size ≤ w19.heap.size := hx.size
  replace hT := own_keeps hT hk (fun ad ha hh => by have hh : ad.block = g5 := hh; have := (own_block hT ad ha).1; omega)
  have z19 := hk.size
  clear hk hst hgs
  refine go_ReqU (k := ?_)
  refine OW_callC Try.func68 (by kernel_rfl) rfl (vInt_any w19 gr S _ hR) rfl ?_
  rintro en w20 ⟨rfl, hR', hk⟩
  refine ⟨_, rfl, ?_⟩
  obtain ⟨t9, ht9⟩ : ∃ t, s8 t8 = t := ⟨_, rfl⟩
  replace hR : VR w20 gr S t9 := by rw [← ht9]; exact hR'
  clear hR'
  replace hx := ext_r hx hk
  replace hsz : w.heap.size ≤ w20.heap.size := hx.size
  replace hB := hB.keeps hk n1
  replace hB5 := hB5.keeps hk n5
  replace hT := own_keeps hT hk (fun ad ha hh => by have hh : ad.block = gr := hh; have := (own_block hT ad ha).1; omega)
  rw [rdI_of]
  obtain ⟨x8, hv8⟩ : ∃ x, rdI t8 = x := ⟨_, rfl⟩
  rw [hv8]
  have z20 := hk.size
  clear hk
  refine go_ReqU (k := ?_)
  refine OW_storeB one_int rfl (.int .i64 x8) rfl rfl hB5 (by show 8 < 12; decide) ?_
  intro w21 hst hgs
  have hk : Keeps w20 w21 (· = g5) := Keeps.of_only hgs rfl
  replace hB5 : Blk w21 g5 39 (qcells ⟨x0, x1, x2, x3, x4, x5, x6, x7, x8, 0, 0, 0⟩ (.slice A6 x1.length c6)).toArray := hst
  replace hR := hR.keeps hk (fun k hk hh => by have hh : k = g5 := hh; exact nS5 (hh ▸ hk))
  replace hB := hB.keeps hk n15
  replace hx := ext_5 hx hk
  replace hsz : w.heap.size ≤ w21.heap.size := hx.size
  replace hT := own_keeps hT hk (fun ad ha hh => by have hh : ad.block = g5 := hh; have := (own_block hT ad ha).1; omega)
  have z21 := hk.size
  clear hk hst hgs
  refine go_ReqU (k := ?_)
  refine OW_callC Try.func71 (by kernel_rfl) rfl (vByte_any w21 gr S _ hR) rfl ?_
  rintro en w22 ⟨rfl, hR', hk⟩
  refine ⟨_, rfl, ?_⟩
  obtain ⟨t10, ht10⟩ : ∃ t, s1 t9 = t := ⟨_, rfl⟩
  replace hR : VR w22 gr S t10 := by rw [← ht10]; exact hR'
  clear hR'
  replace hx := ext_r hx hk
  replace hsz : w.heap.size ≤ w22.heap.size := hx.size
  replace hB := hB.keeps hk n1
  replace hB5 := hB5.keeps hk n5
  replace hT := own_keeps hT hk (fun ad ha hh => by have hh : ad.block = gr := hh; have := (own_block hT ad ha).1; omega)
  rw [rdB_of]
  obtain ⟨x9, hv9⟩ : ∃ x, rdB t9 = x := ⟨_, rfl⟩
  rw [hv9]
  have z22 := hk.size
  clear hk
  refine go_ReqU (k := ?_)
  refine OW_storeB one_u8 rfl (bv x9) rfl rfl hB5 (by show 9 + 0 < 12; decide) ?_
  intro w23 hst hgs
  have hk : Keeps w22 w23 (· = g5) := Keeps.of_only hgs rfl
  replace hB5 : Blk w23 g5 39 (qcells ⟨x0, x1, x2, x3, x4, x5, x6, x7, x8, x9, 0, 0⟩ (.slice A6 x1.length c6)).toArray := hst
  replace hR := hR.keeps hk (fun k hk hh => by have hh : k = g5 := hh; exact nS5 (hh ▸ hk))
  replace hB := hB.keeps hk n15
  replace hx := ext_5 hx hk
  replace hsz : w.heap.size ≤ w23.heap.size := hx.size
  replace hT := own_keeps hT hk (fun ad ha hh => by have hh : ad.block = g5 := hh; have := (own_block hT ad ha).1; omega)
  have z23 := hk.size
  clear hk hst hgs
  refine go_ReqU (k := ?_)
  refine OW_callC Try.func68 (by kernel_rfl) rfl (vInt_any w23 gr S _ hR) rfl ?_
  rintro en w24 ⟨rfl, hR', hk⟩
  refine ⟨_, rfl, ?_⟩
  obtain ⟨t11, ht11⟩ : ∃ t, s8 t10 = t := ⟨_, rfl⟩
  replace hR : VR w24 gr S t11 := by rw [← ht11]; exact hR'
  clear hR'
  replace hx := ext_r hx hk
  replace hsz : w.heap.size ≤ w24.heap.size := hx.size
  replace hB := hB.keeps hk n1
  replace hB5 := hB5.keeps hk n5
  replace hT := own_keeps hT hk (fun ad ha hh => by have hh : ad.block = gr := hh; have := (own_block hT ad ha).1; omega)
  rw [rdI_of]
  obtain ⟨x10, hv10⟩ : ∃ x, rdI t10 = x := ⟨_, rfl⟩
  rw [hv10]
  have z24 := hk.size
  clear hk
  refine go_ReqU (k := ?_)
  refine OW_storeB one_int rfl (.int .i64 x10) rfl rfl hB5 (by show 9 + 1 < 12; decide) ?_
  intro w25 hst hgs
  have hk : Keeps w24 w25 (· = g5) := Keeps.of_only hgs rfl
  replace hB5 : Blk w25 g5 39 (qcells ⟨x0, x1, x2, x3, x4, x5, x6, x7, x8, x9, x10, 0⟩ (.slice A6 x1.length c6)).toArray := hst
  replace hR := hR.keeps hk (fun k hk hh => by have hh : k = g5 := hh; exact nS5 (hh ▸ hk))
  replace hB := hB.keeps hk n15
  replace hx := ext_5 hx hk
  replace hsz : w.heap.size ≤ w25.heap.size := hx.size
  replace hT := own_keeps hT hk (fun ad ha hh => by have hh : ad.block = g5 := hh; have := (own_block hT ad ha).1; omega)
  have z25 := hk.size
  clear hk hst hgs
  refine go_ReqU (k := ?_)
  refine OW_callC Try.func68 (by kernel_rfl) rfl (vInt_any w25 gr S _ hR) rfl ?_
  rintro en w26 ⟨rfl, hR', hk⟩
  refine ⟨_, rfl, ?_⟩
  obtain ⟨t12, ht12⟩ : ∃ t, s8 t11 = t := ⟨_, rfl⟩
  replace hR : VR w26 gr S t12 := by rw [← ht12]; exact hR'
  clear hR'
  replace hx := ext_r hx hk
  replace hsz : w.heap.size ≤ w26.heap.size := hx.size
  replace hB := hB.keeps hk n1
  replace hB5 := hB5.keeps hk n5
  replace hT := own_keeps hT hk (fun ad ha hh => by have hh : ad.block = gr := hh; have := (own_block hT ad ha).1; omega)
  rw [rdI_of]
  obtain ⟨x11, hv11⟩ : ∃ x, rdI t11 = x := ⟨_, rfl⟩
  rw [hv11]
  have z26 := hk.size
  clear hk
  refine go_ReqU (k := ?_)
  refine OW_storeB one_int rfl (.int .i64 x11) rfl rfl hB5 (by show 9 + 2 < 12; decide) ?_
  intro w27 hst hgs
  have hk : Keeps w26 w27 (· = g5) := Keeps.of_only hgs rfl
  replace hB5 : Blk w27 g5 39 (qcells ⟨x0, x1, x2, x3, x4, x5, x6, x7, x8, x9, x10, x11⟩ (.slice A6 x1.length c6)).toArray := hst
  replace hR := hR.keeps hk (fun k hk hh => by have hh : k = g5 := hh; exact nS5 (hh ▸ hk))
  replace hB := hB.keeps hk n15
  replace hx := ext_5 hx hk
  replace hsz : w.heap.size ≤ w27.heap.size := hx.size
  replace hT := own_keeps hT hk (fun ad ha hh => by have hh : ad.block = g5 := hh; have := (own_block hT ad ha).1; omega)
  have z27 := hk.size
  clear hk hst hgs
  have hrq : readRq b = ⟨x0, x1, x2, x3, x4, x5, x6, x7, x8, x9, x10, x11⟩ := by
    unfold readRq q9 q5 q2
    simp only [hv0, ht1, hv1, ht2, hv2, ht3, hv3, ht4, hv4, ht5, hv5, ht6, hv6, ht7, hv7, ht8, hv8, ht9, hv9, ht10, hv10, ht11, hv11, ht12]
  have hen : endRq b = t12 := by
    unfold endRq q9 q5 q2
    simp only [ht1, ht2, ht3, ht4, ht5, ht6, ht7, ht8, ht9, ht10, ht11, ht12]
  rw [hrq, hen] at hpq
  have hI : I64 x10 ∧ I64 x11 := ⟨hv10 ▸ rdI_i64 _, hv11 ▸ rdI_i64 _⟩
  clear hv0 ht1 hv1 ht2 hv2 ht3 hv3 ht4 hv4 ht5 hv5 ht6 hv6 ht7 hv7 ht8 hv8 ht9 hv9 ht10 hv10 ht11 hv11 ht12
  obtain ⟨q, hq⟩ : ∃ q : QR, q = ⟨x0, x1, x2, x3, x4, x5, x6, x7, x8, x9, x10, x11⟩ := ⟨_, rfl⟩
  rw [← hq] at hpq
  have hT : w27.ownsRow w5.heap.size 5 1 (.slice A6 q.token.length c6) q.token.length (q.token.map bv) := by rw [hq]; exact hT
  have hIq : I64 q.expiry ∧ I64 q.serial := by rw [hq]; exact hI
  obtain ⟨e1, e2⟩ := hpq
  rw [e1, e2]
  replace hB5 : Blk w27 g5 39 (qcells q (.slice A6 q.token.length c6)).toArray := by rw [hq]; exact hB5
  refine go_ReqU (k := ?_)
  refine OW_callV Try.func73 (by kernel_rfl) rfl (vEnd_any w27 gr S _ hR) rfl ?_
  intro u1 hxu
  replace hx := hx.trans' hxu
  replace hB := hB.ext hxu
  replace hB5 := hB5.ext hxu
  replace hT := own_ext hT hxu
  clear hR
  refine go_ReqU (k := ?_)
  refine OW_split 57 _ rfl (fun hh => ?_) (fun hh => ?_)
  · have he : ¬ endE t12 = 0 := by simpa using hh
    rw [decide_eq_false he]
    refine go_ReqU (k := ?_)
    refine OW_build _ _ bld_Q0 rfl ?_
    refine go_ReqU (k := ?_)
    refine OW_storeA agg_Req rfl (qcells q0 (.slice none 0 0)) rfl rfl hB (by kernel_rfl) (qcells_one q0 none 0 0) ?_
    intro u2 hb22 hg22
    have hx22 : Ext w u2 := (Keeps.of_only (S := (· = g1)) hg22 rfl).ext hx (fun j hj => by have hj : j = g1 := hj; omega)
    refine go_ReqU (k := ?_)
    exact bodyE_retc2 rfl agg_Req rfl (qcells q0 (.slice none 0 0)) (.int .i64 150) rfl rfl (Blk.range hb22) (zeroQ hx22 150)
  have he : endE t12 = 0 := by simpa using hh
  rw [decide_eq_true he]
  clear hh
  refine go_ReqU (k := ?_)
  refine OW_loadX agg_Req rfl (qcells q (.slice A6 q.token.length c6)) rfl hB5.atL ?_
  refine go_ReqU (k := ?_)
  refine OW_callV Try.func23 (by kernel_rfl) rfl (refMay_any u1 A6 c6 q hIq) rfl ?_
  intro u2 hxv
  replace hx := hx.trans' hxv
  replace hB := hB.ext hxv
  replace hB5 := hB5.ext hxv
  replace hT := own_ext hT hxv
  cases hm : mayQ q with
  | false =>
    refine go_ReqU (k := ?_)
    refine OW_build _ _ bld_Q0 rfl ?_
    refine go_ReqU (k := ?_)
    refine OW_storeA agg_Req rfl (qcells q0 (.slice none 0 0)) rfl rfl hB (by kernel_rfl) (qcells_one q0 none 0 0) ?_
    intro u3 hb22 hg22
    have hx22 : Ext w u3 := (Keeps.of_only (S := (· = g1)) hg22 rfl).ext hx (fun j hj => by have hj : j = g1 := hj; omega)
    refine go_ReqU (k := ?_)
    exact bodyE_retc2 rfl agg_Req rfl (qcells q0 (.slice none 0 0)) (.int .i64 150) rfl rfl (Blk.range hb22) (zeroQ hx22 150)
  | true =>
    refine go_ReqU (k := ?_)
    refine OW_loadX agg_Req rfl (qcells q (.slice A6 q.token.length c6)) rfl hB5.atL ?_
    refine go_ReqU (k := ?_)
    refine OW_storeA agg_Req rfl (qcells q (.slice A6 q.token.length c6)) rfl rfl hB (by kernel_rfl) (qcells_one q _ _ _) ?_
    intro u3 hb23 hg23
    have hK23 : Keeps u2 u3 (· = g1) := Keeps.of_only hg23 rfl
    have hx23 : Ext w u3 := hK23.ext hx (fun j hj => by have hj : j = g1 := hj; omega)
    have hT23 := own_keeps hT hK23 (fun ad ha hh => by have hh : ad.block = g1 := hh; have := (own_block hT ad ha).1; omega)
    refine go_ReqU (k := ?_)
    exact bodyE_retc2 rfl agg_Req rfl (qcells q (.slice A6 q.token.length c6)) (.int .i64 0) rfl rfl (Blk.range hb23) ⟨A6, c6, rfl, own_mono hT23 (by omega), hx23⟩
end Go.Proofs.Ytdpomchhbbopbaa

/- Walks: a request is the same as itself; the chapter's examples. What Parse tells: a request's own data. -/
namespace Go.Proofs.Ytdpomchhbbopbaa
open Go Go.RowKit
set_option linter.unusedVariables false
set_option maxRecDepth 4000
theorem go_ReqS {A B : Prop} (h : Held B → A := by
  intro hEnd
  repeat (first | refine OW_eqlTr rfl rfl rfl ?_ | refine OW_eqlST rfl rfl rfl ?_ | refine OW_neqF rfl rfl rfl ?_ | refine OW_fieldBL fldo_Q0 rfl ?_ | refine OW_fieldBL fldo_Q1 rfl ?_ | refine OW_fieldBL fldo_Q2 rfl ?_ | refine OW_fieldBL fldo_Q3 rfl ?_ | refine OW_fieldBL fldo_Q4 rfl ?_ | refine OW_fieldBL fldo_Q5 rfl ?_ | refine OW_fieldBL fldo_Q6 rfl ?_ | refine OW_fieldBL fldo_Q7 rfl ?_ | refine OW_fieldBL fldo_Q8 rfl ?_ | refine OW_fieldBL fldo_Q9 rfl ?_ | refine OW_fieldG fldo_G0 rfl ?_ | refine OW_fieldG fldo_G1 rfl ?_ | refine OW_fieldG fldo_G2 rfl ?_ | refine OW_fieldBL fldo_G0 rfl ?_ | refine OW_fieldBL fldo_G1 rfl ?_ | refine OW_fieldBL fldo_G2 rfl ?_ | refine OW_nilCheck rfl ?_ | refine OW_lenL und_string rfl ?_ | refine OW_eqlE rfl rfl ?_ | refine OW_moveV (.int _ _) rfl ?_ | refine OW_moveV (.slice _ _ _) rfl ?_ | refine OW_moveV (.bool _) rfl ?_ | refine OW_moveV (.pointer _) rfl ?_ | refine OW_moveV (.string _) rfl ?_ | refine OW_moveV (.agg _) rfl ?_ | refine OW_moveV (.tuple _) rfl ?_ | refine OW_nil ?_ | refine thenE_normal ?_ | refine CW_seq ?_ | refine CW_region (by kernel_rfl) ?_ | refine OW_assignV (.int _ _) rfl ?_ | refine OW_assignV (.slice _ _ _) rfl ?_ | refine OW_assignV (.bool _) rfl ?_ | refine OW_assignV (.pointer _) rfl ?_ | refine OW_assignV (.string _) rfl ?_ | refine OW_assignV (.agg _) rfl ?_ | refine OW_assignV (.tuple _) rfl ?_ | refine OW_addI rfl rfl (by omega) ?_ | refine OW_subI rfl rfl (by omega) ?_ | refine OW_mulI rfl rfl (by omega) ?_ | refine OW_lss rfl rfl ?_ | refine OW_extract rfl rfl ?_ | refine OW_gtr rfl rfl ?_ | refine OW_leq rfl rfl ?_ | refine OW_geq rfl rfl ?_ | refine OW_eql rfl rfl ?_ | refine OW_neq rfl rfl ?_ | refine OW_not rfl ?_ | refine OW_pickT rfl _ rfl ?_ | refine OW_pickF rfl (.bool _) rfl ?_ | refine OW_pickB rfl rfl rfl ?_ | refine OW_move ?_ | refine OW_assign ?_ | refine OW_pass rfl ?_ | refine OW_take rfl ?_ | refine OW_lenS (by first | with_reducible exact und_bytes | with_reducible exact und_bytess) rfl ?_ | refine OW_convInt (by first | with_reducible exact und_u8 | with_reducible exact und_u64 | with_reducible exact und_int | with_reducible exact und_u32) (by first | with_reducible exact und_u8 | with_reducible exact und_u64 | with_reducible exact und_int | with_reducible exact und_u32) rfl ?_ | refine OW_add rfl rfl ?_ | refine OW_sub rfl rfl ?_ | refine OW_mul rfl rfl ?_ | refine OW_min2 rfl rfl ?_ | refine OW_max2 rfl rfl ?_ | refine OW_neg rfl ?_ | refine CW_block ?_ | refine CW_condT rfl ?_ | refine CW_condF rfl ?_ | refine CW_exit ?_ | refine CW_ret ?_ | refine CW_skip ?_ | refine LW_seq ?_ | refine LW_regC ?_ | refine LW_condC ?_ | refine LW_regF ?_ | refine LW_condF ?_ | refine FW_seq ?_ | refine FW_region (by kernel_rfl) ?_ | refine FW_block ?_ | refine FW_condT rfl ?_ | refine FW_condF rfl ?_ | refine FW_exit ?_ | refine FW_ret ?_ | refine FW_skip ?_ | refine LW_ret ?_ | refine LW_skip ?_ | refine thenE_exit ?_ | refine thenE_ret ?_ | refine inBlockE_normal ?_ | refine inBlockE_same ?_ | refine inBlockE_ret ?_ | refine inBlockE_ne (by rfl) ?_ | refine OW_eqlB (by with_reducible exact und_bool) rfl rfl ?_ | refine OW_neqB (by with_reducible exact und_bool) rfl rfl ?_ | refine OW_idxS (by with_reducible exact und_bytes) one_u8 rfl rfl _ rfl (by omega) ?_ | refine OW_idxS (by with_reducible exact und_bytess) one_bytes rfl rfl _ rfl (by omega) ?_ | refine OW_load1 (by first | with_reducible exact one_u8 | with_reducible exact one_bytes) rfl _ (by assumption) ?_ | (refine OW_isLoad ?_; refine OW_loadBk (by first | with_reducible exact one_u8 | with_reducible exact one_int | with_reducible exact one_str | with_reducible exact one_bytes) rfl (by assumption) _ (by rfl) ?_) | refine OW_idxL 0 und_bytes one_u8 rfl rfl (by decide) ?_ | refine OW_idxL 9 und_bytes one_u8 rfl rfl (by decide) ?_)
  exact hEnd.out) (k : B) : A := h ⟨k⟩
theorem zeros_bs {w : World} {g n : Nat} (hb : Blk w g 5 (Array.replicate n (.int .u8 0))) : Bs w (some ⟨g, 0, none⟩) (List.replicate n 0) := by
  refine blk_bs (T := 5) _ ?_
  rw [List.map_replicate, List.toArray_replicate]
  exact hb
theorem q0_i : QI q0 := ⟨by unfold I64 q0; simp, by unfold q0; simp⟩
theorem parQ_good {b : List UInt8} (h : parQE b = 0) : b.length ≤ 1024 ∧ goodQ b = true ∧ parQ b = readRq b := by
  unfold parQE at h
  by_cases hl : b.length ≤ 1024
  · rw [if_pos hl] at h
    cases hg : goodQ b with
    | true => exact ⟨hl, rfl, by unfold parQ; rw [decide_eq_true hl, hg]; rfl⟩
    | false => rw [hg] at h; exact absurd h (by decide)
  · rw [if_neg hl] at h
    exact absurd h (by decide)
theorem parQ_bad {b : List UInt8} (h : ¬ parQE b = 0) : parQ b = q0 := by
  unfold parQE at h
  unfold parQ
  by_cases hl : b.length ≤ 1024
  · rw [if_pos hl] at h
    cases hg : goodQ b with
    | true => rw [hg] at h; exact absurd rfl h
    | false => rw [Bool.and_false]; rfl
  · rw [decide_eq_false hl, Bool.false_and]; rfl
theorem parQ_i (b : List UInt8) : QI (parQ b) := by
  by_cases h : parQE b = 0
  · obtain ⟨_, h2, h3⟩ := parQ_good h
    rw [h3]
    obtain ⟨m1, m2, m3, m4⟩ := may_lens (goodQ_back h2).1
    exact ⟨⟨rdI_i64 _, rdI_i64 _, rdI_i64 _, rdI_i64 _, rdI_i64 _, rdI_i64 _⟩, by omega, by omega, by omega⟩
  · rw [parQ_bad h]; exact q0_i
theorem parQ_tok (b : List UInt8) : (parQ b).token.length ≤ 256 := by
  by_cases h : parQE b = 0
  · obtain ⟨_, h2, h3⟩ := parQ_good h
    rw [h3]
    exact (may_lens (goodQ_back h2).1).1
  · rw [parQ_bad h]; exact Nat.zero_le _
theorem parQ_ok {w : World} {base : Nat} {B : Option Addr} {d : Nat} {b : List UInt8} (hO : w.ownsRow base 5 1 (.slice B (parQ b).token.length d) (parQ b).token.length ((parQ b).token.map bv)) : QOk w (parQ b) B d :=
  ⟨own_rd hO, (own_cap hO).1, by have := parQ_tok b; omega, parQ_i b⟩
theorem parQ_form {q : QR} (hm : mayQ q = true) (hi : QI q) : parQ (reqF q) = q ∧ parQE (reqF q) = 0 := by
  obtain ⟨h1, h2, h3⟩ := good_req hm hi
  have hl : (reqF q).length ≤ 1024 := by omega
  have hd : decide ((reqF q).length ≤ 1024) = true := decide_eq_true hl
  unfold parQ parQE
  rw [hd, h1, h2, if_pos hl]
  exact ⟨rfl, rfl⟩
set_option maxHeartbeats 8000000 in
theorem sameReq_any (w : World) (A B : Option Addr) (c d : Nat) (q : QR) (hA : Bs w A q.token) (hB : Bs w B q.token) (hl : q.token.length ≤ 1000000) (hI : I64 q.expiry ∧ I64 q.serial) : Calls Try.prog 45 #[.agg (qcells q (.slice A q.token.length c)).toArray, .agg (qcells q (.slice B q.token.length d)).toArray] w (RetV w (.bool true)) := by
  refine calls_of_CW Try.func45 rfl (by simp [Try.ntmps45]) ?_
  rw [Try.ntmps45]
  refine go_ReqS (k := ?_)
  refine OW_box _ rfl ?_
  intro w1 g1 hb1 hg1 hlt1 hx1
  have hb1 : Blk w1 g1 39 (qcells q (.slice A q.token.length c)).toArray := hb1
  refine go_ReqS (k := ?_)
  refine OW_box _ rfl ?_
  intro w2 g2 hb2 hg2 hlt2 hx2
  have hb2 : Blk w2 g2 39 (qcells q (.slice B q.token.length d)).toArray := hb2
  replace hb1 := hb1.ext hx2
  have hx02 := hx1.trans' hx2
  refine go_ReqS (k := ?_)
  refine OW_callV Try.func19 (by kernel_rfl) rfl (refSame_any w2 A B q.token q.token c d (hA.ext hx02) (hB.ext hx02) ⟨hl, hl⟩) rfl ?_
  intro w3 hx3
  rw [beq_self_eq_true]
  replace hb1 := hb1.ext hx3
  replace hb2 := hb2.ext hx3
  have hx03 := hx02.trans' hx3
  refine go_ReqS (k := ?_)
  refine OW_loadX agg_Grant rfl (gcells ⟨q.rights, q.expiry, q.serial⟩) rfl (grant_in hb1) ?_
  refine go_ReqS (k := ?_)
  refine OW_loadX agg_Grant rfl (gcells ⟨q.rights, q.expiry, q.serial⟩) rfl (grant_in hb2) ?_
  refine go_ReqS (k := ?_)
  refine OW_eqlG rfl rfl ⟨hI.1, hI.2⟩ ⟨hI.1, hI.2⟩ true (by simp) ?_
  refine go_ReqS (k := ?_)
  exact bodyE_ret1 rfl (.bool true) rfl ⟨rfl, hx03⟩
def getQ : QR := ⟨1, [], [107], [], [], 0, 0, 0, 0, 0, 0, 0⟩
theorem bld_get : ∀ w, (Instr.build 39 [(0, .int .u8 1), (2, stv [107])].toArray).run Try.prog w = .ok (.agg (qcells getQ (.slice none 0 0)).toArray) w := fun w => by kernel_rfl
theorem bld_op1 : ∀ w, (Instr.build 39 [(0, .int .u8 1)].toArray).run Try.prog w = .ok (.agg (qcells ⟨1, [], [], [], [], 0, 0, 0, 0, 0, 0, 0⟩ (.slice none 0 0)).toArray) w := fun w => by kernel_rfl
set_option maxHeartbeats 8000000 in
theorem awake15_any (w : World) : Calls Try.prog 58 #[] w (RetV w (.bool true)) := by
  have z0 : I64 0 := by unfold I64; simp
  refine calls_of_CW Try.func58 rfl (by simp [Try.ntmps58]) ?_
  rw [Try.ntmps58]
  refine go_ReqS (k := ?_)
  refine OW_build _ _ bld_get rfl ?_
  refine go_ReqS (k := ?_)
  refine OW_allocA agg_Req ?_
  intro w1 g1 hb1 hg1 hlt1 hx1
  refine go_ReqS (k := ?_)
  refine OW_storeA agg_Req rfl (qcells getQ (.slice none 0 0)) rfl rfl hb1 (by kernel_rfl) (qcells_one getQ none 0 0) ?_
  intro w2 hb2 hgr2
  have hb2 : Blk w2 g1 39 (qcells getQ (.slice none 0 0)).toArray := hb2
  have hx02 : Ext w w2 := (Keeps.of_only hgr2 (S := (· = g1)) rfl).ext hx1 (fun j hj => by have hj : j = g1 := hj; omega)
  clear hb1 hgr2
  refine go_ReqS (k := ?_)
  refine OW_loadX agg_Req rfl (qcells getQ (.slice none 0 0)) rfl hb2.atL ?_
  refine go_ReqS (k := ?_)
  refine OW_callC Try.func24 (by kernel_rfl) rfl (printReq_any w2 none 0 getQ ⟨Bs.nil _ _, Nat.le_refl _, Nat.zero_le _, ⟨z0, z0, z0, z0, z0, z0⟩, by decide, by decide, by decide⟩) rfl ?_
  rintro en w3 ⟨hx3, ⟨hm, rfl⟩ | ⟨hm, B, d, rfl, hf3⟩⟩
  · exact absurd hm (by decide +kernel)
  refine ⟨_, rfl, ?_⟩
  have hF : reqF getQ = [1, 0, 0, 0, 0, 0, 0, 0, 1, 107] ++ List.replicate 57 0 := by decide +kernel
  have hbF := hf3.bs
  have hlF : (reqF getQ).length = 67 := by rw [hF]; rfl
  obtain ⟨aB, hB1, hc0⟩ := hbF.at_ (j := 0) (by rw [hlF]; decide)
  have hc9 := (hB1 ▸ hbF).cellAt 9 (by rw [hlF]; decide)
  have e0 : (reqF getQ)[0]'(by rw [hlF]; decide) = 1 := by simp only [hF]; rfl
  have e9 : (reqF getQ)[9]'(by rw [hlF]; decide) = 107 := by simp only [hF]; rfl
  rw [e0] at hc0
  rw [e9] at hc9
  replace hc0 : w3.cell? (aB.add 0) = some (.int .u8 1) := hc0
  replace hc9 : w3.cell? (aB.add 9) = some (.int .u8 107) := hc9
  rw [hlF]
  subst hB1
  have hx03 := hx02.trans' hx3
  replace hb2 := hb2.ext hx3
  clear hbF hf3 hF e0 e9 hm
  refine go_ReqS (k := ?_)
  refine OW_make und_bytes info_u8 rfl rfl rfl (n := 67) rfl rfl (by decide) (by decide) ?_
  intro w4 g4 hb4 hg4 hx4
  have hz67 : Bs w4 (some ⟨g4, 0, none⟩) (List.replicate 67 0) := zeros_bs hb4
  have hP67 := ParseReq_any w4 (some ⟨g4, 0, none⟩) 67 (List.replicate 67 0) hz67 (by decide) (by decide)
  rw [show parQ (List.replicate 67 0) = q0 from parQ_bad (by decide +kernel), show parQE (List.replicate 67 0) = 150 from by decide +kernel] at hP67
  refine go_ReqS (k := ?_)
  refine OW_callC Try.func44 (by kernel_rfl) rfl hP67 rfl ?_
  rintro en w5 ⟨B5, d5, rfl, hO5, hx5⟩
  refine ⟨_, rfl, ?_⟩
  clear hP67 hz67 hb4
  have hx35 := hx4.trans' hx5
  refine go_ReqS (k := ?_)
  refine OW_allocA agg_Req ?_
  intro w6 g6 hb6 hg6 hlt6 hx6
  refine go_ReqS (k := ?_)
  refine OW_storeA agg_Req rfl (qcells q0 (.slice B5 q0.token.length d5)) rfl rfl hb6 (by kernel_rfl) (qcells_one q0 _ _ _) ?_
  intro w7 hb7 hgr7
  have hx37 : Ext w3 w7 := (Keeps.of_only hgr7 (S := (· = g6)) rfl).ext (hx35.trans' hx6) (fun j hj => by have hj : j = g6 := hj; have := hx35.size; omega)
  clear hb6 hgr7 hb7
  refine go_ReqS (k := ?_)
  refine OW_make und_bytes info_u8 rfl rfl rfl (n := 1025) rfl rfl (by decide) (by decide) ?_
  intro w8 g8 hb8 hg8 hx8
  have hzz : Bs w8 (some ⟨g8, 0, none⟩) (List.replicate 1025 0) := zeros_bs hb8
  have hPz := ParseReq_any w8 (some ⟨g8, 0, none⟩) 1025 (List.replicate 1025 0) hzz (by rw [List.length_replicate]; exact Nat.le_refl _) (by rw [List.length_replicate]; decide)
  obtain ⟨p1, p2⟩ := parQ_long (b := List.replicate 1025 0) (by rw [List.length_replicate]; decide)
  rw [p1, p2, List.length_replicate] at hPz
  clear p1 p2 hzz hb8
  refine go_ReqS (k := ?_)
  refine OW_callC Try.func44 (by kernel_rfl) rfl hPz rfl ?_
  rintro en w9 ⟨B9, d9, rfl, hO9, hx9⟩
  refine ⟨_, rfl, ?_⟩
  clear hPz
  have hx39 := hx37.trans' (hx8.trans' hx9)
  refine go_ReqS (k := ?_)
  refine OW_allocA agg_Req ?_
  intro w10 g10 hb10 hg10 hlt10 hx10
  refine go_ReqS (k := ?_)
  refine OW_storeA agg_Req rfl (qcells q0 (.slice B9 q0.token.length d9)) rfl rfl hb10 (by kernel_rfl) (qcells_one q0 _ _ _) ?_
  intro w11 hb11 hgr11
  have hx311 : Ext w3 w11 := (Keeps.of_only hgr11 (S := (· = g10)) rfl).ext (hx39.trans' hx10) (fun j hj => by have hj : j = g10 := hj; have := hx39.size; omega)
  clear hb10 hgr11 hb11
  replace hb2 := hb2.ext hx311
  have hl11 := hb2.lt
  refine go_ReqS (k := ?_)
  refine OW_loadX agg_Req rfl (qcells getQ (.slice none 0 0)) rfl hb2.atL ?_
  refine go_ReqS (k := ?_)
  refine OW_allocA agg_Req ?_
  intro w12 g12 hb12 hg12 hlt12 hx12
  refine go_ReqS (k := ?_)
  refine OW_storeA agg_Req rfl (qcells getQ (.slice none 0 0)) rfl rfl hb12 (by kernel_rfl) (qcells_one getQ none 0 0) ?_
  intro w13 hb13 hgr13
  have hx313 : Ext w3 w13 := (Keeps.of_only hgr13 (S := (· = g12)) rfl).ext (hx311.trans' hx12) (fun j hj => by have hj : j = g12 := hj; have := hx311.size; omega)
  have hx1113 : Ext w11 w13 := (Keeps.of_only hgr13 (S := (· = g12)) rfl).ext hx12 (fun j hj => by have hj : j = g12 := hj; omega)
  replace hb2 := hb2.ext hx1113
  clear hb12 hgr13
  refine go_ReqS (k := ?_)
  refine OW_storeB one_int rfl (.int .i64 1) rfl rfl hb13 (by show 5 < 12; decide) ?_
  intro w14 hb14 hgr14
  have hb14 : Blk w14 g12 39 (qcells { getQ with n := 1 } (.slice none 0 0)).toArray := hb14
  have hx314 : Ext w3 w14 := (Keeps.of_only hgr14 (S := (· = g12)) rfl).ext hx313 (fun j hj => by have hj : j = g12 := hj; have := hx311.size; omega)
  have hne : ¬ g1 = g12 := by omega
  replace hb2 := hb2.keeps (Keeps.of_only hgr14 (S := (· = g12)) rfl) hne
  replace hc0 := hx314.cell' hc0
  replace hc9 := hx314.cell' hc9
  have hx014 := hx03.trans' hx314
  clear hb13 hgr14
  refine go_ReqS (k := ?_)
  refine OW_loadX agg_Req rfl (qcells getQ (.slice none 0 0)) rfl hb2.atL ?_
  refine go_ReqS (k := ?_)
  refine OW_callV Try.func25 (by kernel_rfl) rfl (may_any w14 none 0 getQ ⟨z0, z0⟩) rfl ?_
  intro w15 hx15
  rw [show mayQ getQ = true from by decide +kernel]
  replace hb14 := hb14.ext hx15
  have hx015 := hx014.trans' hx15
  clear hb2 hc0 hc9
  refine go_ReqS (k := ?_)
  refine OW_build _ _ bld_Q0 rfl ?_
  refine go_ReqS (k := ?_)
  refine OW_callV Try.func25 (by kernel_rfl) rfl (may_any w15 none 0 q0 ⟨z0, z0⟩) rfl ?_
  intro w16 hx16
  rw [show mayQ q0 = false from by decide +kernel]
  replace hb14 := hb14.ext hx16
  have hx016 := hx015.trans' hx16
  refine go_ReqS (k := ?_)
  refine OW_build _ _ bld_op1 rfl ?_
  refine go_ReqS (k := ?_)
  refine OW_callV Try.func25 (by kernel_rfl) rfl (may_any w16 none 0 ⟨1, [], [], [], [], 0, 0, 0, 0, 0, 0, 0⟩ ⟨z0, z0⟩) rfl ?_
  intro w17 hx17
  rw [show mayQ ⟨1, [], [], [], [], 0, 0, 0, 0, 0, 0, 0⟩ = false from by decide +kernel]
  replace hb14 := hb14.ext hx17
  have hx017 := hx016.trans' hx17
  refine go_ReqS (k := ?_)
  refine OW_loadX agg_Req rfl (qcells { getQ with n := 1 } (.slice none 0 0)) rfl hb14.atL ?_
  refine go_ReqS (k := ?_)
  refine OW_callV Try.func25 (by kernel_rfl) rfl (may_any w17 none 0 { getQ with n := 1 } ⟨z0, z0⟩) rfl ?_
  intro w18 hx18
  rw [show mayQ { getQ with n := 1 } = false from by decide +kernel]
  refine go_ReqS (k := ?_)
  exact bodyE_ret1 rfl (.bool true) rfl ⟨rfl, hx017.trans' hx18⟩
end Go.Proofs.Ytdpomchhbbopbaa

/- Lists put together, of a literal list of lists. -/
namespace Go.Proofs.Ytdpomchhbbopbaa
open Go Go.RowKit
set_option linter.unusedVariables false
theorem cat_lit (w : World) (g n c : Nat) {T : TypeId} (vs : List BV) (hb : Blk w g T (vs.map sv).toArray) (h : ∀ x ∈ vs, Bs w x.1 x.2.2) (hn : vs.length = n) (hm : n ≤ 1000) (hl : (flat vs).length ≤ 1000000) :
    Calls Try.prog 50 #[.slice (some ⟨g, 0, none⟩) n c] w (RetBs 5 w (flat vs)) := by
  subst hn
  exact cat_any w _ _ vs (by simpa using hb.rd) h (by omega) hl
theorem cat_lit1 {w : World} {g c : Nat} {T : TypeId} {A : Option Addr} {cA n : Nat} {a : List UInt8} (hb : Blk w g T #[.slice A n cA]) (ha : Bs w A a) (hn : a.length = n) (hl : a.length ≤ 1000000) :
    Calls Try.prog 50 #[.slice (some ⟨g, 0, none⟩) 1 c] w (RetBs 5 w a) := by
  subst hn
  have := cat_lit w g 1 c [(A, cA, a)] hb (by simpa using ha) rfl (by decide) (by simpa [flat] using hl)
  simpa [flat] using this
theorem cat_lit2 {w : World} {g c : Nat} {T : TypeId} {A B : Option Addr} {cA cB n m : Nat} {a b : List UInt8} (hb : Blk w g T #[.slice A n cA, .slice B m cB]) (ha : Bs w A a) (hn : a.length = n) (hB : Bs w B b) (hm : b.length = m) (hl : a.length + b.length ≤ 1000000) :
    Calls Try.prog 50 #[.slice (some ⟨g, 0, none⟩) 2 c] w (RetBs 5 w (a ++ b)) := by
  subst hn; subst hm
  have := cat_lit w g 2 c [(A, cA, a), (B, cB, b)] hb (by simp; exact ⟨ha, hB⟩) rfl (by decide) (by simpa [flat] using hl)
  simpa [flat] using this
theorem cat_lit3 {w : World} {g c : Nat} {T : TypeId} {A B D : Option Addr} {cA cB cD n m k : Nat} {a b d : List UInt8} (hb : Blk w g T #[.slice A n cA, .slice B m cB, .slice D k cD]) (ha : Bs w A a) (hn : a.length = n) (hB : Bs w B b) (hm : b.length = m) (hD : Bs w D d) (hk : d.length = k) (hl : a.length + (b.length + d.length) ≤ 1000000) :
    Calls Try.prog 50 #[.slice (some ⟨g, 0, none⟩) 3 c] w (RetBs 5 w (a ++ (b ++ d))) := by
  subst hn; subst hm; subst hk
  have := cat_lit w g 3 c [(A, cA, a), (B, cB, b), (D, cD, d)] hb (by simp; exact ⟨ha, hB, hD⟩) rfl (by decide) (by simpa [flat] using hl)
  simpa [flat] using this
theorem cat_lit4 {w : World} {g c : Nat} {T : TypeId} {A B D E : Option Addr} {cA cB cD cE n m k j : Nat} {a b d f : List UInt8} (hb : Blk w g T #[.slice A n cA, .slice B m cB, .slice D k cD, .slice E j cE]) (ha : Bs w A a) (hn : a.length = n) (hB : Bs w B b) (hm : b.length = m) (hD : Bs w D d) (hk : d.length = k) (hE : Bs w E f) (hj : f.length = j) (hl : a.length + (b.length + (d.length + f.length)) ≤ 1000000) :
    Calls Try.prog 50 #[.slice (some ⟨g, 0, none⟩) 4 c] w (RetBs 5 w (a ++ (b ++ (d ++ f)))) := by
  subst hn; subst hm; subst hk; subst hj
  have := cat_lit w g 4 c [(A, cA, a), (B, cB, b), (D, cD, d), (E, cE, f)] hb (by simp; exact ⟨ha, hB, hD, hE⟩) rfl (by decide) (by simpa [flat] using hl)
  simpa [flat] using this
end Go.Proofs.Ytdpomchhbbopbaa
