/- RequestFields: a request with one thing more than its operation asks for may not be. No condition. -/
import Derived.Test.YtdpomchhbbopbaaGr3
import Derived.Test.YtdpomchhbbopbaaGr11
import Derived.Test.YtdpomchhbbopbaaGr21
namespace Go.Proofs.Ytdpomchhbbopbaa.lawRequestFields
open Go.ChangeShapes Go.WideShapes Go.ChangeAt Go.RowKit
set_option linter.unusedVariables false
set_option maxRecDepth 4000
theorem go_LRequestFields {A B : Prop} (h : Held B → A := by
  intro hEnd
  repeat (first | refine OW_neqF rfl rfl rfl ?_ | refine OW_eqlTr rfl rfl rfl ?_ | refine OW_fieldBL fldo_Q0 rfl ?_ | refine OW_fieldBL fldo_Q1 rfl ?_ | refine OW_fieldBL fldo_Q2 rfl ?_ | refine OW_fieldBL fldo_Q3 rfl ?_ | refine OW_fieldBL fldo_Q4 rfl ?_ | refine OW_fieldBL fldo_Q5 rfl ?_ | refine OW_fieldBL fldo_Q6 rfl ?_ | refine OW_fieldBL fldo_Q7 rfl ?_ | refine OW_fieldBL fldo_Q8 rfl ?_ | refine OW_fieldBL fldo_Q9 rfl ?_ | refine OW_fieldG fldo_G0 rfl ?_ | refine OW_fieldG fldo_G1 rfl ?_ | refine OW_fieldG fldo_G2 rfl ?_ | refine OW_nilCheck rfl ?_ | refine OW_lenL und_string rfl ?_ | refine OW_eqlE rfl rfl ?_ | refine OW_moveV (.int _ _) rfl ?_ | refine OW_moveV (.slice _ _ _) rfl ?_ | refine OW_moveV (.bool _) rfl ?_ | refine OW_moveV (.pointer _) rfl ?_ | refine OW_moveV (.string _) rfl ?_ | refine OW_moveV (.agg _) rfl ?_ | refine OW_moveV (.tuple _) rfl ?_ | refine OW_nil ?_ | refine thenE_normal ?_ | refine CW_seq ?_ | refine CW_region (by kernel_rfl) ?_ | refine OW_assignV (.int _ _) rfl ?_ | refine OW_assignV (.slice _ _ _) rfl ?_ | refine OW_assignV (.bool _) rfl ?_ | refine OW_assignV (.pointer _) rfl ?_ | refine OW_assignV (.string _) rfl ?_ | refine OW_assignV (.agg _) rfl ?_ | refine OW_assignV (.tuple _) rfl ?_ | refine OW_addI rfl rfl (by omega) ?_ | refine OW_subI rfl rfl (by omega) ?_ | refine OW_mulI rfl rfl (by omega) ?_ | refine OW_lss rfl rfl ?_ | refine OW_extract rfl rfl ?_ | refine OW_gtr rfl rfl ?_ | refine OW_leq rfl rfl ?_ | refine OW_geq rfl rfl ?_ | refine OW_eql rfl rfl ?_ | refine OW_neq rfl rfl ?_ | refine OW_not rfl ?_ | refine OW_pickT rfl _ rfl ?_ | refine OW_pickF rfl (.bool _) rfl ?_ | refine OW_pickB rfl rfl rfl ?_ | refine OW_move ?_ | refine OW_assign ?_ | refine OW_pass rfl ?_ | refine OW_take rfl ?_ | refine OW_lenS (by first | with_reducible exact und_bytes | with_reducible exact und_bytess) rfl ?_ | refine OW_convInt (by first | with_reducible exact und_u8 | with_reducible exact und_u64 | with_reducible exact und_int | with_reducible exact und_u32) (by first | with_reducible exact und_u8 | with_reducible exact und_u64 | with_reducible exact und_int | with_reducible exact und_u32) rfl ?_ | refine OW_add rfl rfl ?_ | refine OW_sub rfl rfl ?_ | refine OW_mul rfl rfl ?_ | refine OW_min2 rfl rfl ?_ | refine OW_max2 rfl rfl ?_ | refine OW_neg rfl ?_ | refine CW_block ?_ | refine CW_condT rfl ?_ | refine CW_condF rfl ?_ | refine CW_exit ?_ | refine CW_ret ?_ | refine CW_skip ?_ | refine LW_seq ?_ | refine LW_regC ?_ | refine LW_condC ?_ | refine LW_regF ?_ | refine LW_condF ?_ | refine FW_seq ?_ | refine FW_region (by kernel_rfl) ?_ | refine FW_block ?_ | refine FW_condT rfl ?_ | refine FW_condF rfl ?_ | refine FW_exit ?_ | refine FW_ret ?_ | refine FW_skip ?_ | refine LW_ret ?_ | refine LW_skip ?_ | refine thenE_exit ?_ | refine thenE_ret ?_ | refine inBlockE_normal ?_ | refine inBlockE_same ?_ | refine inBlockE_ret ?_ | refine inBlockE_ne (by rfl) ?_ | refine OW_eqlB (by with_reducible exact und_bool) rfl rfl ?_ | refine OW_neqB (by with_reducible exact und_bool) rfl rfl ?_ | refine OW_idxS (by with_reducible exact und_bytes) one_u8 rfl rfl _ rfl (by omega) ?_ | refine OW_idxS (by with_reducible exact und_bytess) one_bytes rfl rfl _ rfl (by omega) ?_ | refine OW_load1 (by first | with_reducible exact one_u8 | with_reducible exact one_bytes) rfl _ (by assumption) ?_ | (refine OW_isLoad ?_; refine OW_loadBk (by first | with_reducible exact one_u8 | with_reducible exact one_int | with_reducible exact one_str | with_reducible exact one_bytes) rfl (by assumption) _ (by rfl) ?_))
  exact hEnd.out) (k : B) : A := h ⟨k⟩
theorem may_facts {q : QR} (h : mayQ q = true) : (1 ≤ q.op.toNat ∧ q.op.toNat ≤ 10) ∧ q.token.length ≤ 256 ∧ q.old.length ≤ 64 ∧ (q.op ≠ 3 → q.old = []) ∧ (0 ≤ q.keys ∧ q.keys ≤ 65536) ∧ q.serial = 0 ∧ (0 ≤ q.ten ∧ q.ten ≤ 8) := by
  obtain ⟨h1, h2, h3, h4⟩ := may_lens h
  unfold mayQ at h
  rw [Bool.and_eq_true] at h
  have h5 := h.2
  refine ⟨?_, h1, h4, ?_⟩
  · unfold mayO at h5
    repeat' split at h5
    all_goals first | (cases h5; done) | skip
    all_goals (rename_i ho; first | (rcases ho with ho | ho <;> (rw [ho]; decide)) | (rw [ho]; decide))
  · unfold mayO keyOk inR room0 grant0 at h5
    repeat' split at h5
    all_goals first | (cases h5; done) | skip
    all_goals (simp only [Bool.and_eq_true, decide_eq_true_eq, beq_iff_eq] at h5)
    · exact ⟨fun _ => h5.1.1.1.1.2, by have := h5.1.2; omega, h5.2.2, by have := h5.1.1.2; omega⟩
    · exact ⟨fun _ => h5.1.1.1.1.2, by have := h5.1.2; omega, h5.2.2, by have := h5.1.1.2; omega⟩
    · rename_i ho
      exact ⟨fun hh => absurd ho hh, by have := h5.1.2; omega, h5.2.2, by have := h5.1.1.2; omega⟩
    · exact ⟨fun _ => h5.1.1.1.1.2, by have := h5.1.2; omega, h5.2.2, by have := h5.1.1.2; omega⟩
    · exact ⟨fun _ => h5.1.1.1.1.1.2, by have := h5.1.1.2; omega, h5.2.2, by have := h5.1.1.1.2; omega⟩
    · exact ⟨fun _ => h5.1.1.1.1.1.1.2, by have := h5.1.1.1.2; omega, h5.2, by have := h5.1.1.1.1.2; omega⟩
    · exact ⟨fun _ => h5.1.1.1.1.2, by have := h5.1.2; omega, h5.2.2, by have := h5.1.1.2; omega⟩
    · exact ⟨fun _ => h5.1.1.1.1.2, by have := h5.1.2; omega, h5.2.2, by have := h5.1.1.2; omega⟩
/-- The six requests that may not be. -/
def long64 : List UInt8 := [49, 50, 51, 52, 53, 54, 55, 56, 57, 48, 49, 50, 51, 52, 53, 54, 55, 56, 57, 48, 49, 50, 51, 52, 53, 54, 55, 56, 57, 48, 49, 50, 51, 52, 53, 54, 55, 56, 57, 48, 49, 50, 51, 52, 53, 54, 55, 56, 57, 48, 49, 50, 51, 52, 53, 54, 55, 56, 57, 48, 49, 50, 51, 52]
def f0 (q : QR) : QR := { q with old := q.old ++ long64 }
def f0b (q : QR) : QR := { q with old := q.old ++ long64 ++ [53] }
def f1 (q : QR) : QR := { q with keys := q.keys + 70000 }
def f2 (q : QR) : QR := { q with serial := 1 }
def f3 (q : QR) : QR := { q with token := List.replicate 257 0 }
def f4 (q : QR) : QR := { q with op := q.op + 10 }
def f5 (q : QR) : QR := { q with ten := q.ten + 9 }
theorem no_of {q : QR} (h : mayQ q = true → False) : mayQ q = false := by
  cases hh : mayQ q with
  | false => rfl
  | true => exact (h hh).elim
theorem f0_no {q : QR} (hm : mayQ q = true) (h : ¬ (q.op = 3 ∧ q.old = [])) : mayQ (f0 q) = false := no_of fun hf => by
  obtain ⟨_, _, a, b, _⟩ := may_facts hf
  have hl : (f0 q).old.length = q.old.length + 64 := by simp [f0, long64]
  by_cases ho : q.op = 3
  · have : q.old ≠ [] := fun hh => h ⟨ho, hh⟩
    have := List.length_pos_iff.2 this
    omega
  · rw [b ho] at hl
    simp at hl
theorem f0b_no {q : QR} (hm : mayQ q = true) : mayQ (f0b q) = false := no_of fun hf => by
  obtain ⟨_, _, a, _⟩ := may_facts hf
  have hl : (f0b q).old.length = q.old.length + 65 := by simp [f0b, long64]
  omega
theorem f1_no {q : QR} (hm : mayQ q = true) : mayQ (f1 q) = false := no_of fun hf => by
  obtain ⟨_, _, _, _, a, _⟩ := may_facts hm
  obtain ⟨_, _, _, _, b, _⟩ := may_facts hf
  have : (f1 q).keys = q.keys + 70000 := rfl
  omega
theorem f2_no {q : QR} : mayQ (f2 q) = false := no_of fun hf => by
  obtain ⟨_, _, _, _, _, b, _⟩ := may_facts hf
  exact absurd b (by show ¬ (1 : Int) = 0; decide)
theorem f3_no {q : QR} : mayQ (f3 q) = false := no_of fun hf => by
  obtain ⟨_, b, _⟩ := may_facts hf
  have : (f3 q).token.length = 257 := List.length_replicate
  omega
theorem f4_no {q : QR} (hm : mayQ q = true) : mayQ (f4 q) = false := no_of fun hf => by
  obtain ⟨a, _⟩ := may_facts hm
  obtain ⟨b, _⟩ := may_facts hf
  have : (f4 q).op.toNat = (q.op.toNat + 10) % 256 := by show (q.op + 10).toNat = _; rw [UInt8.toNat_add]; rfl
  omega
theorem f5_no {q : QR} (hm : mayQ q = true) : mayQ (f5 q) = false := no_of fun hf => by
  obtain ⟨_, _, _, _, _, _, a⟩ := may_facts hm
  obtain ⟨_, _, _, _, _, _, b⟩ := may_facts hf
  have : (f5 q).ten = q.ten + 9 := rfl
  omega
section
variable {P : Program} {ops : Array Oper} {Q : Exit → (Nat → Value) → World → Prop} {rest : List Oper} {e : Nat → Value} {w : World} {d : Tmp} {ty : TypeId} {pos : String} {aft : Array Edge}
theorem OW_addT {x y : Operand} {t t' : TypeId} {l m : List UInt8} (hx : ev e x = stv l) (hy : ev e y = stv m) (hl : l.length + m.length ≤ 1000000) (h : OW P ops Q rest (upd e d (stv (l ++ m))) w) : OW P ops Q (⟨some d, .binOp .add t x y t', ty, pos, aft, none⟩ :: rest) e w := by
  refine OW_val _ rfl ?_ h
  have hn : ¬ ((((⟨l.toArray⟩ : ByteArray).size + (⟨m.toArray⟩ : ByteArray).size : Nat) : Int) > IntKind.i64.max) := by
    show ¬ (((l.toArray.size + m.toArray.size : Nat) : Int) > 9223372036854775807)
    rw [List.size_toArray, List.size_toArray]
    omega
  have hs : (⟨l.toArray⟩ : ByteArray) ++ ⟨m.toArray⟩ = ⟨(l ++ m).toArray⟩ := by
    apply ByteArray.ext
    simp
  simp only [execOp, hx, hy, stv, eqGuard, binOp, Op.stringOp]
  rw [if_neg hn, hs]
  rfl
end
theorem el_Req : ElT Try.prog 39 12 := ⟨by kernel_rfl⟩
theorem und_Reqs : Try.prog.underlying 93 = some (.slice 39) := Try.underlying93
theorem und_u64b : Try.prog.underlying 94 = some (.int .u64) := Try.underlying94
/-- Six requests, one behind the other. -/
def row6 (a b c d f g : List Value) : List Value := a ++ (b ++ (c ++ (d ++ (f ++ g))))
theorem row6_at {w : World} {g : Nat} {T : TypeId} {a b c d f h : List Value} (hb : Blk w g T (row6 a b c d f h).toArray) (ha : a.length = 12) (hb2 : b.length = 12) (hc : c.length = 12) (hd : d.length = 12) (hf : f.length = 12) (hh : h.length = 12) :
    At w ⟨g, 0, none⟩ a ∧ At w ⟨g, 12, none⟩ b ∧ At w ⟨g, 24, none⟩ c ∧ At w ⟨g, 36, none⟩ d ∧ At w ⟨g, 48, none⟩ f ∧ At w ⟨g, 60, none⟩ h := by
  have key : ∀ (o : Nat) (x : List Value), x.length = 12 → ((row6 a b c d f h).drop o).take 12 = x → At w ⟨g, o, none⟩ x := fun o x hx he => by
    have := (hb.atL).part o 12
    rw [he, addr0] at this
    exact this
  unfold row6 at key
  refine ⟨key 0 a ha ?_, key 12 b hb2 ?_, key 24 c hc ?_, key 36 d hd ?_, key 48 f hf ?_, key 60 h hh ?_⟩ <;> simp [List.drop_append, ha, hb2, hc, hd, hf, hh, List.drop_of_length_le, List.take_of_length_le]
theorem pick6 {w : World} {g g8 : Nat} {T : TypeId} {q r0 : QR} {A : Option Addr} {c : Nat} {v v8 : Value} (hb : Blk w g T (row6 (qcells r0 v) (qcells (f1 q) v) (qcells (f2 q) v) (qcells (f3 q) v8) (qcells (f4 q) v) (qcells (f5 q) v)).toArray) (hv : v = .slice A q.token.length c) (hv8 : v8 = .slice (some ⟨g8, 0, none⟩) 257 257) (ht : r0.token = q.token) (hi0 : I64 r0.expiry ∧ I64 r0.serial) (hi : I64 q.expiry ∧ I64 q.serial) (hm : mayQ q = true) {k : Nat} (hk : k < 6) :
    ∃ (r : QR) (A' : Option Addr) (c' : Nat), At w ⟨g, k * 12, none⟩ (qcells r (.slice A' r.token.length c')) ∧ (I64 r.expiry ∧ I64 r.serial) ∧ (r = r0 ∨ mayQ r = false) := by
  subst hv; subst hv8
  obtain ⟨a0, a1, a2, a3, a4, a5⟩ := row6_at hb rfl rfl rfl rfl rfl rfl
  match k, hk with
  | 0, _ => exact ⟨r0, A, c, by rw [ht]; exact a0, hi0, .inl rfl⟩
  | 1, _ => exact ⟨f1 q, A, c, a1, hi, .inr (f1_no hm)⟩
  | 2, _ => exact ⟨f2 q, A, c, a2, ⟨hi.1, by show I64 1; unfold I64; omega⟩, .inr f2_no⟩
  | 3, _ => exact ⟨f3 q, some ⟨g8, 0, none⟩, 257, a3, hi, .inr f3_no⟩
  | 4, _ => exact ⟨f4 q, A, c, a4, hi, .inr (f4_no hm)⟩
  | 5, _ => exact ⟨f5 q, A, c, a5, hi, .inr (f5_no hm)⟩
set_option maxHeartbeats 8000000 in
theorem walk (w : World) (cs : List Value) (q : QR) (h0 : kReq.R w cs q) (v1 : Value) (which : Int) (h1 : kI.R w [v1] which) : Calls Try.prog 13 #[.agg cs.toArray, v1] w (RetV w (.bool true)) := by
  obtain ⟨A, c, rfl, hok⟩ := h0
  obtain ⟨hv1, hic⟩ := h1
  injection hv1 with hv1
  subst hv1
  have hI := hok.i.i
  have hIq : I64 q.expiry ∧ I64 q.serial := ⟨hI.2.2.2.2.1, hI.2.2.2.2.2⟩
  refine calls_of_CW Try.func13 rfl (by simp [Try.ntmps13]) ?_
  rw [Try.ntmps13]
  refine go_LRequestFields (k := ?_)
  refine OW_box _ rfl ?_
  intro w1 g1 hb1 hg1 hlt1 hx1
  have hb1 : Blk w1 g1 39 (qcells q (.slice A q.token.length c)).toArray := hb1
  refine go_LRequestFields (k := ?_)
  refine OW_callV Try.func58 (by kernel_rfl) rfl (awake15_any w1) rfl ?_
  intro w1b hx1b
  replace hb1 := hb1.ext hx1b
  have hx01 := hx1.trans' hx1b
  refine go_LRequestFields (k := ?_)
  refine OW_loadX agg_Req rfl (qcells q (.slice A q.token.length c)) rfl hb1.atL ?_
  refine go_LRequestFields (k := ?_)
  refine OW_callC Try.func21 (by kernel_rfl) rfl (greatQ_any w1b A c q) rfl ?_
  rintro en w2 ⟨hx2, rfl | ⟨rfl, htk, hgr⟩⟩
  · refine ⟨_, rfl, ?_⟩
    refine go_LRequestFields (k := ?_)
    exact bodyE_ret1 rfl (.bool true) rfl ⟨rfl, hx01.trans' hx2⟩
  refine ⟨_, rfl, ?_⟩
  have hx02 := hx01.trans' hx2
  replace hb1 := hb1.ext hx2
  refine go_LRequestFields (k := ?_)
  refine OW_loadX agg_Req rfl (qcells q (.slice A q.token.length c)) rfl hb1.atL ?_
  refine go_LRequestFields (k := ?_)
  refine OW_callV Try.func25 (by kernel_rfl) rfl (may_any w2 A c q hIq) rfl ?_
  intro w3 hx3
  have hx03 := hx02.trans' hx3
  replace hb1 := hb1.ext hx3
  cases hm : mayQ q with
  | false =>
    refine go_LRequestFields (k := ?_)
    exact bodyE_ret1 rfl (.bool true) rfl ⟨rfl, hx03⟩
  | true => ?_
  obtain ⟨m1, m2, m3, m4, m5, m6, m7⟩ := may_facts hm
  obtain ⟨v, hv⟩ : ∃ v, (Value.slice A q.token.length c) = v := ⟨_, rfl⟩
  have hv1 : v.oneCell' = true := by rw [← hv]; rfl
  have htok : ∀ w', Ext w w' → Bs w' A q.token := fun w' hx => hok.bs.ext hx
  rw [hv] at hb1 ⊢
  refine go_LRequestFields (k := ?_)
  refine OW_loadX agg_Req rfl (qcells q v) rfl hb1.atL ?_
  refine go_LRequestFields (k := ?_)
  refine OW_loadX agg_Req rfl (qcells q v) rfl hb1.atL ?_
  refine go_LRequestFields (k := ?_)
  refine OW_loadX agg_Req rfl (qcells q v) rfl hb1.atL ?_
  refine go_LRequestFields (k := ?_)
  refine OW_loadX agg_Req rfl (qcells q v) rfl hb1.atL ?_
  refine go_LRequestFields (k := ?_)
  refine OW_loadX agg_Req rfl (qcells q v) rfl hb1.atL ?_
  refine go_LRequestFields (k := ?_)
  refine OW_loadX agg_Req rfl (qcells q v) rfl hb1.atL ?_
  refine go_LRequestFields (k := ?_)
  refine OW_litM [qcells q v, qcells q v, qcells q v, qcells q v, qcells q v, qcells q v] und_Reqs agg_Req rfl rfl (by intro x hx; simp only [List.mem_cons, List.not_mem_nil, or_false] at hx; rcases hx with rfl | rfl | rfl | rfl | rfl | rfl <;> rfl) (by decide) ?_
  intro w4 g4 hb4 hg4 hlt4 hx4
  have hl13 := hb1.lt
  have hb4 : Blk w4 g4 39 (row6 (qcells q v) (qcells q v) (qcells q v) (qcells q v) (qcells q v) (qcells q v)).toArray := by simpa [row6] using hb4
  replace hb1 := hb1.ext hx4
  have hx04 := hx03.trans' hx4
  have hne : ¬ g1 = g4 := by omega
  have hg4w : w.heap.size ≤ g4 := by have := hx03.size; omega
  have ho64 : long64.length = 64 := rfl
  refine go_LRequestFields (k := ?_)
  refine OW_addT (m := long64) rfl rfl (by rw [ho64]; omega) ?_
  refine go_LRequestFields (k := ?_)
  refine OW_idxN und_Reqs el_Req rfl rfl 0 rfl (by decide) ?_
  rw [addr_add_off]
  refine go_LRequestFields (k := ?_)
  refine OW_storeB one_str rfl (stv (q.old ++ long64)) rfl rfl hb4 (by show 4 < 72; decide) ?_
  intro w5 hb5 hgr5
  have hb5 : Blk w5 g4 39 (row6 (qcells (f0 q) v) (qcells q v) (qcells q v) (qcells q v) (qcells q v) (qcells q v)).toArray := hb5
  have hk5 := Keeps.of_only hgr5 (S := (· = g4)) rfl
  replace hb1 := hb1.keeps hk5 hne
  have hx05 : Ext w w5 := hk5.ext hx04 (fun j hj => by have hj : j = g4 := hj; omega)
  clear hb4 hgr5
  refine go_LRequestFields (k := ?_)
  refine OW_idxN und_Reqs el_Req rfl rfl 1 rfl (by decide) ?_
  rw [addr_add_off]
  refine OW_fieldO fldo_Q7 rfl ?_
  rw [addr_add_off]
  refine OW_storeB one_int rfl (.int .i64 (q.keys + 70000)) rfl rfl hb5 (by show 19 < 72; decide) ?_
  intro w6 hb6 hgr6
  have hb6 : Blk w6 g4 39 (row6 (qcells (f0 q) v) (qcells (f1 q) v) (qcells q v) (qcells q v) (qcells q v) (qcells q v)).toArray := hb6
  have hk6 := Keeps.of_only hgr6 (S := (· = g4)) rfl
  replace hb1 := hb1.keeps hk6 hne
  have hx06 : Ext w w6 := hk6.ext hx05 (fun j hj => by have hj : j = g4 := hj; omega)
  clear hb5 hgr6
  refine go_LRequestFields (k := ?_)
  refine OW_idxN und_Reqs el_Req rfl rfl 2 rfl (by decide) ?_
  rw [addr_add_off]
  refine OW_fieldO fldo_Q9 rfl ?_
  rw [addr_add_off]
  refine OW_fieldO fldo_G2 rfl ?_
  rw [addr_add_off]
  refine OW_storeB one_int rfl (.int .i64 1) rfl rfl hb6 (by show 35 < 72; decide) ?_
  intro w7 hb7 hgr7
  have hb7 : Blk w7 g4 39 (row6 (qcells (f0 q) v) (qcells (f1 q) v) (qcells (f2 q) v) (qcells q v) (qcells q v) (qcells q v)).toArray := hb7
  have hk7 := Keeps.of_only hgr7 (S := (· = g4)) rfl
  replace hb1 := hb1.keeps hk7 hne
  have hx07 : Ext w w7 := hk7.ext hx06 (fun j hj => by have hj : j = g4 := hj; omega)
  clear hb6 hgr7
  refine go_LRequestFields (k := ?_)
  refine OW_make und_bytes info_u8 rfl rfl rfl (n := 257) rfl rfl (by decide) (by decide) ?_
  intro w8 g8 hb8 hg8 hx8
  have hz8 : Bs w8 (some ⟨g8, 0, none⟩) (List.replicate 257 0) := zeros_bs hb8
  have hlt7 := hb7.lt
  replace hb7 := hb7.ext hx8
  replace hb1 := hb1.ext hx8
  have hx08 := hx07.trans' hx8
  refine go_LRequestFields (k := ?_)
  refine OW_idxN und_Reqs el_Req rfl rfl 3 rfl (by decide) ?_
  rw [addr_add_off]
  refine OW_fieldO fldo_Q1 rfl ?_
  rw [addr_add_off]
  refine OW_storeB one_bytes rfl (.slice (some ⟨g8, 0, none⟩) 257 257) rfl rfl hb7 (by show 37 < 72; decide) ?_
  intro w9 hb9 hgr9
  have hb9 : Blk w9 g4 39 (row6 (qcells (f0 q) v) (qcells (f1 q) v) (qcells (f2 q) v) (qcells (f3 q) (.slice (some ⟨g8, 0, none⟩) 257 257)) (qcells q v) (qcells q v)).toArray := hb9
  have hk9 := Keeps.of_only hgr9 (S := (· = g4)) rfl
  replace hb1 := hb1.keeps hk9 hne
  have hx09 : Ext w w9 := hk9.ext hx08 (fun j hj => by have hj : j = g4 := hj; omega)
  clear hb7 hgr9 hz8 hb8
  have hop : (Value.int .u8 (IntKind.u8.wrap ((q.op.toNat : Int) + 10))) = bv (q.op + 10) := by
    rw [show ((q.op.toNat : Int) + 10) = ((q.op.toNat + 10 : Nat) : Int) from by omega, wrap_u8_lt _ (by omega)]
    unfold bv
    rw [UInt8.toNat_add]
    congr 1
    show ((q.op.toNat + 10 : Nat) : Int) = (((q.op.toNat + 10) % 256 : Nat) : Int)
    omega
  refine go_LRequestFields (k := ?_)
  rw [hop]
  refine OW_idxN und_Reqs el_Req rfl rfl 4 rfl (by decide) ?_
  rw [addr_add_off]
  refine OW_fieldO fldo_Q0 rfl ?_
  rw [addr_add_off]
  refine OW_storeB one_u8 rfl (bv (q.op + 10)) rfl rfl hb9 (by show 48 < 72; decide) ?_
  intro w10 hb10 hgr10
  have hb10 : Blk w10 g4 39 (row6 (qcells (f0 q) v) (qcells (f1 q) v) (qcells (f2 q) v) (qcells (f3 q) (.slice (some ⟨g8, 0, none⟩) 257 257)) (qcells (f4 q) v) (qcells q v)).toArray := hb10
  have hk10 := Keeps.of_only hgr10 (S := (· = g4)) rfl
  replace hb1 := hb1.keeps hk10 hne
  have hx010 : Ext w w10 := hk10.ext hx09 (fun j hj => by have hj : j = g4 := hj; omega)
  clear hb9 hgr10
  refine go_LRequestFields (k := ?_)
  refine OW_idxN und_Reqs el_Req rfl rfl 5 rfl (by decide) ?_
  rw [addr_add_off]
  refine OW_fieldO fldo_Q6 rfl ?_
  rw [addr_add_off]
  refine OW_storeB one_int rfl (.int .i64 (q.ten + 9)) rfl rfl hb10 (by show 66 < 72; decide) ?_
  intro w11 hb11 hgr11
  have hb11 : Blk w11 g4 39 (row6 (qcells (f0 q) v) (qcells (f1 q) v) (qcells (f2 q) v) (qcells (f3 q) (.slice (some ⟨g8, 0, none⟩) 257 257)) (qcells (f4 q) v) (qcells (f5 q) v)).toArray := hb11
  have hk11 := Keeps.of_only hgr11 (S := (· = g4)) rfl
  replace hb1 := hb1.keeps hk11 hne
  have hx011 : Ext w w11 := hk11.ext hx010 (fun j hj => by have hj : j = g4 := hj; omega)
  clear hb10 hgr11
  obtain ⟨k, hk⟩ : ∃ k : Nat, (u64N which % 6 : Nat) = k := ⟨_, rfl⟩
  have hk6 : k < 6 := by omega
  have hkw : IntKind.i64.wrap (((u64N which % 6 : Nat) : Int)) = (k : Int) := by rw [hk]; exact wrap64_in (by omega)
  obtain ⟨r, Ar, cr, hatr, hir, hnr⟩ := pick6 hb11 hv.symm rfl rfl hIq hIq hm hk6
  have hlt11 := hb11.lt
  have hlt111 := hb1.lt
  refine go_LRequestFields (k := ?_)
  rw [wrap_u64I]
  refine OW_rem rfl rfl (by decide) ?_
  rw [rem_u32 _ 6 6 rfl]
  refine go_LRequestFields (k := ?_)
  rw [hkw]
  refine OW_idxN und_Reqs el_Req rfl rfl k rfl hk6 ?_
  rw [addr_add_off]
  refine OW_loadX agg_Req rfl (qcells r (.slice Ar r.token.length cr)) rfl (by rw [Nat.zero_add]; exact hatr) ?_
  refine go_LRequestFields (k := ?_)
  refine OW_allocA agg_Req ?_
  intro w12 g12 hb12 hg12 hlt12 hx12
  refine go_LRequestFields (k := ?_)
  refine OW_storeA agg_Req rfl (qcells r (.slice Ar r.token.length cr)) rfl rfl hb12 (by kernel_rfl) (qcells_one _ _ _ _) ?_
  intro w13 hb13 hgr13
  have hb13 : Blk w13 g12 39 (qcells r (.slice Ar r.token.length cr)).toArray := hb13
  have hx1113 : Ext w11 w13 := (Keeps.of_only hgr13 (S := (· = g12)) rfl).ext hx12 (fun j hj => by have hj : j = g12 := hj; omega)
  have hx013 := hx011.trans' hx1113
  replace hb1 := hb1.ext hx1113
  replace hb11 := hb11.ext hx1113
  clear hb12 hgr13 hatr
  by_cases h3 : q.op = 3
  rotate_left 1
  · have h3i : ((q.op.toNat : Int) == 3) = false := by
      rw [beq_eq_false_iff_ne]
      intro h
      exact h3 (UInt8.toNat_inj.1 (by show _ = 3; omega))
    have hno : mayQ r = false := by
      rcases hnr with h | h
      · rw [h]; exact f0_no hm (fun h => h3 h.1)
      · exact h
    refine go_LRequestFields (k := ?_)
    rw [h3i]
    refine go_LRequestFields (k := ?_)
    refine OW_loadX agg_Req rfl (qcells r (.slice Ar r.token.length cr)) rfl hb13.atL ?_
    refine go_LRequestFields (k := ?_)
    refine OW_callV Try.func25 (by kernel_rfl) rfl (may_any w13 Ar cr r hir) rfl ?_
    intro wZ hxZ
    rw [show mayQ r = false from hno]
    refine go_LRequestFields (k := ?_)
    exact bodyE_ret1 rfl (.bool true) rfl ⟨rfl, hx013.trans' hxZ⟩

  have h3i : ((q.op.toNat : Int) == 3) = true := by rw [h3]; rfl
  by_cases ho : q.old = []
  rotate_left 1
  · have hoi : (q.old == []) = false := beq_eq_false_iff_ne.2 ho
    have hno : mayQ r = false := by
      rcases hnr with h | h
      · rw [h]; exact f0_no hm (fun h => ho h.2)
      · exact h
    refine go_LRequestFields (k := ?_)
    rw [h3i]
    refine go_LRequestFields (k := ?_)
    rw [hoi]
    refine go_LRequestFields (k := ?_)
    refine OW_loadX agg_Req rfl (qcells r (.slice Ar r.token.length cr)) rfl hb13.atL ?_
    refine go_LRequestFields (k := ?_)
    refine OW_callV Try.func25 (by kernel_rfl) rfl (may_any w13 Ar cr r hir) rfl ?_
    intro wZ hxZ
    rw [show mayQ r = false from hno]
    refine go_LRequestFields (k := ?_)
    exact bodyE_ret1 rfl (.bool true) rfl ⟨rfl, hx013.trans' hxZ⟩

  have hoi : (q.old == []) = true := beq_iff_eq.2 ho
  have hl65 : (q.old ++ long64).length ≤ 1000 := by rw [List.length_append, ho64]; omega
  refine go_LRequestFields (k := ?_)
  rw [h3i]
  refine go_LRequestFields (k := ?_)
  rw [hoi]
  refine go_LRequestFields (k := ?_)
  refine OW_idxN und_Reqs el_Req rfl rfl 0 rfl (by decide) ?_
  rw [addr_add_off]
  refine go_LRequestFields (k := ?_)
  refine OW_addT (l := q.old ++ long64) (m := [53]) rfl rfl (by show (q.old ++ long64).length + 1 ≤ 1000000; omega) ?_
  refine OW_idxN und_Reqs el_Req rfl rfl 0 rfl (by decide) ?_
  rw [addr_add_off]
  refine go_LRequestFields (k := ?_)
  refine OW_storeB one_str rfl (stv (q.old ++ long64 ++ [53])) rfl rfl hb11 (by show 4 < 72; decide) ?_
  intro w14 hb14 hgr14
  have hb14 : Blk w14 g4 39 (row6 (qcells (f0b q) v) (qcells (f1 q) v) (qcells (f2 q) v) (qcells (f3 q) (.slice (some ⟨g8, 0, none⟩) 257 257)) (qcells (f4 q) v) (qcells (f5 q) v)).toArray := hb14
  have hk14 := Keeps.of_only hgr14 (S := (· = g4)) rfl
  have hx014 : Ext w w14 := hk14.ext hx013 (fun j hj => by have hj : j = g4 := hj; omega)
  have hb13b := hb13.keeps hk14 (by omega)
  obtain ⟨s, As, csl, hats, his, hns⟩ := pick6 hb14 hv.symm rfl rfl hIq hIq hm hk6
  have hno : mayQ s = false := by
    rcases hns with h | h
    · rw [h]; exact f0b_no hm
    · exact h
  refine go_LRequestFields (k := ?_)
  rw [wrap_u64I]
  refine OW_rem rfl rfl (by decide) ?_
  rw [rem_u32 _ 6 6 rfl]
  refine go_LRequestFields (k := ?_)
  rw [hkw]
  refine OW_idxN und_Reqs el_Req rfl rfl k rfl hk6 ?_
  rw [addr_add_off]
  refine OW_loadX agg_Req rfl (qcells s (.slice As s.token.length csl)) rfl (by rw [Nat.zero_add]; exact hats) ?_
  refine go_LRequestFields (k := ?_)
  refine OW_storeA agg_Req rfl (qcells s (.slice As s.token.length csl)) rfl rfl hb13b rfl (qcells_one _ _ _ _) ?_
  intro w15 hb15 hgr15
  have hb15 : Blk w15 g12 39 (qcells s (.slice As s.token.length csl)).toArray := hb15
  have hx015 : Ext w w15 := (Keeps.of_only hgr15 (S := (· = g12)) rfl).ext hx014 (fun j hj => by have hj : j = g12 := hj; have := hx011.size; omega)
  refine go_LRequestFields (k := ?_)
  refine OW_loadX agg_Req rfl (qcells s (.slice As s.token.length csl)) rfl hb15.atL ?_
  refine go_LRequestFields (k := ?_)
  refine OW_callV Try.func25 (by kernel_rfl) rfl (may_any w15 As csl s his) rfl ?_
  intro wZ hxZ
  rw [show mayQ s = false from hno]
  refine go_LRequestFields (k := ?_)
  exact bodyE_ret1 rfl (.bool true) rfl ⟨rfl, hx015.trans' hxZ⟩
set_option maxRecDepth 100000 in
theorem lifted (os : Os) (started : os.Started) (H : Type) (enc : TypeId × Value → H) :
    ReturnsInHanded {} Try.checked os 13 .any (Rows.requestFieldsSpec.pre6 enc Try.prog Try.f13 Rows.requestFieldsRow.domain false) (Rows.requestFieldsSpec.post enc Try.prog Try.f13 false true false false) := by
  refine returnsInHanded_of_change_sized (C := Try.checked) ownP started (by kernel_rfl) Try.func13
    (ChangeSpec.witness6 (enc := enc) (C := Try.checked) false ⟨#[], #[.agg (qcells ⟨0, [], [], [], [], 0, 0, 0, 0, 0, 0, 0⟩ (.slice none 0 0)).toArray, .int .i64 0], []⟩ 8 (by kernel_rfl) (by kernel_rfl) (by kernel_rfl) (by kernel_rfl)) ?_
  intro W base args ds gs before hval0 hW hcnd hwt0 _
  have hval : ∀ (j : Nat) t v, Try.f13.params[j]? = some t → args[j]? = some v → Value.okWide Try.prog W .any base t v := hval0
  have hW' := hW
  obtain ⟨p, q, hA0, hV, rfl, hfz, hnd⟩ := hW
  have hA : DataW.TrodAll enc Try.prog W 0 (fun _ => true) true Try.f13.params.toList args.toList ds p := hA0
  have hwt : (DataW.weightsEach Try.prog (Try.f13.params.toList ++ []) (ds ++ gs)).all (· ≤ reachBytes) = true := hwt0
  rw [Try.params13] at hA hval hwt
  obtain ⟨v0, vs0, d0, ds0, p0, q0, hargs, rfl, rfl, h0, r0⟩ := trodAll_cons hA
  obtain ⟨v1, vs1, d1, ds1, p1, q1, rfl, rfl, rfl, h1, r1⟩ := trodAll_cons r0
  obtain ⟨rfl, rfl, rfl⟩ := trodAll_nil r1
  obtain rfl : args = #[v0, v1] := by cases args; simp_all
  obtain ⟨rfl, rfl⟩ := trodVars_none hV
  have k0 := h0
  have lt0 : ∀ x ∈ p0, x.block < W.heap.size := by obtain ⟨m, hm⟩ := k0; exact DataW.trod_lt m _ _ _ hm
  have wk0 : WOk Try.prog 39 d0 := wok_each hwt 0 rfl rfl
  obtain ⟨cs0, a0, rfl, b0⟩ := kd_struct kReq Try.underlying39 (hval 0 39 v0 rfl rfl) h0 wk0
  have k1 := h1
  have lt1 : ∀ x ∈ p1, x.block < W.heap.size := by obtain ⟨m, hm⟩ := k1; exact DataW.trod_lt m _ _ _ hm
  have wk1 : WOk Try.prog 3 d1 := wok_each hwt 1 rfl rfl
  obtain ⟨a1, b1⟩ := kd_int kI und_int (hval 1 3 v1 rfl rfl) h1 wk1
  clear hA0 hval0 hwt0
  refine (walk W cs0 a0 b0 v1 a1 b1).mono fun e W' ⟨he, bel⟩ => ?_
  subst he
  exact ⟨_, rfl, _, _, _, [], _, [], hW', trodAll_mk1 (shut_bool Try.underlying4 _), (trodAll_cons_mk (Below.trod laidP (by kernel_rfl) (of_decide_eq_true (by kernel_rfl)) k0 bel lt0) (trodAll_cons_mk (Below.trod laidP (by kernel_rfl) (of_decide_eq_true (by kernel_rfl)) k1 bel lt1) trodAll_mk0)), rfl, bel.frame _, fun h => by cases h⟩
theorem over : Rows.requestFieldsRow.holds Try.pinned (OpenSpec.ofChange Rows.requestFieldsSpec) :=
  OpenClaim.holds_of_wide 13 Try.f13 rfl rfl rfl rfl rfl rfl rfl ⟨rfl, rfl, rfl, rfl, rfl⟩ rfl rfl rfl rfl rfl (by kernel_rfl) Try.func13 (by kernel_rfl)
    (of_decide_eq_true (by kernel_rfl)) (by unfold Func.isWrapper; first | (rw [if_pos (by decide +kernel)]; kernel_rfl) | (rw [if_neg (by decide +kernel)]; exact ⟨rfl, rfl⟩))
    (fun os started H enc _ => lifted os started H enc)
theorem proved : Rows.RequestFieldsSaid := over
#print axioms proved
end Go.Proofs.Ytdpomchhbbopbaa.lawRequestFields
