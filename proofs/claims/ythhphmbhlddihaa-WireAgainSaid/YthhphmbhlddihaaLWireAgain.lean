/- WireAgain: what is read to its end, and written again, is the same bytes. No condition. -/
import Derived.Test.YthhphmbhlddihaaWireY
import Derived.Test.YthhphmbhlddihaaWireP
import Derived.Test.YthhphmbhlddihaaFrame
namespace Go.Proofs.Ythhphmbhlddihaa.lawWireAgain
open Go.ChangeShapes Go.WideShapes Go.ChangeAt Go.RowKit
set_option linter.unusedVariables false
set_option maxRecDepth 4000
theorem go_LWireAgain {A B : Prop} (h : Held B → A := by
  intro hEnd
  repeat (first | refine OW_neqF rfl rfl rfl ?_ | refine OW_eqlTr rfl rfl (by first | rfl | omega) ?_ | refine OW_moveV (.int _ _) rfl ?_ | refine OW_moveV (.slice _ _ _) rfl ?_ | refine OW_moveV (.bool _) rfl ?_ | refine OW_moveV (.pointer _) rfl ?_ | refine OW_moveV (.string _) rfl ?_ | refine OW_moveV (.agg _) rfl ?_ | refine OW_moveV (.tuple _) rfl ?_ | refine OW_nil ?_ | refine thenE_normal ?_ | refine CW_seq ?_ | refine CW_region (by kernel_rfl) ?_ | refine OW_assignV (.int _ _) rfl ?_ | refine OW_assignV (.slice _ _ _) rfl ?_ | refine OW_assignV (.bool _) rfl ?_ | refine OW_assignV (.pointer _) rfl ?_ | refine OW_assignV (.string _) rfl ?_ | refine OW_assignV (.agg _) rfl ?_ | refine OW_assignV (.tuple _) rfl ?_ | refine OW_addI rfl rfl (by omega) ?_ | refine OW_subI rfl rfl (by omega) ?_ | refine OW_mulI rfl rfl (by omega) ?_ | refine OW_lss rfl rfl ?_ | refine OW_extract rfl rfl ?_ | refine OW_gtr rfl rfl ?_ | refine OW_leq rfl rfl ?_ | refine OW_geq rfl rfl ?_ | refine OW_eql rfl rfl ?_ | refine OW_neq rfl rfl ?_ | refine OW_not rfl ?_ | refine OW_pickT rfl _ rfl ?_ | refine OW_pickF rfl (.bool _) rfl ?_ | refine OW_pickB rfl rfl rfl ?_ | refine OW_move ?_ | refine OW_assign ?_ | refine OW_pass rfl ?_ | refine OW_take rfl ?_ | refine OW_lenS (by first | with_reducible exact und_bytes | with_reducible exact und_bytess) rfl ?_ | refine OW_convInt (by first | with_reducible exact und_u8 | with_reducible exact und_u64 | with_reducible exact und_int | with_reducible exact und_u32) (by first | with_reducible exact und_u8 | with_reducible exact und_u64 | with_reducible exact und_int | with_reducible exact und_u32) rfl ?_ | refine OW_add rfl rfl ?_ | refine OW_sub rfl rfl ?_ | refine OW_mul rfl rfl ?_ | refine OW_min2 rfl rfl ?_ | refine OW_max2 rfl rfl ?_ | refine OW_neg rfl ?_ | refine CW_block ?_ | refine CW_condT rfl ?_ | refine CW_condF rfl ?_ | refine CW_exit ?_ | refine CW_ret ?_ | refine CW_skip ?_ | refine LW_seq ?_ | refine LW_regC ?_ | refine LW_condC ?_ | refine LW_regF ?_ | refine LW_condF ?_ | refine FW_seq ?_ | refine FW_region (by kernel_rfl) ?_ | refine FW_block ?_ | refine FW_condT rfl ?_ | refine FW_condF rfl ?_ | refine FW_exit ?_ | refine FW_ret ?_ | refine FW_skip ?_ | refine LW_ret ?_ | refine LW_skip ?_ | refine thenE_exit ?_ | refine thenE_ret ?_ | refine inBlockE_normal ?_ | refine inBlockE_same ?_ | refine inBlockE_ret ?_ | refine inBlockE_ne (by rfl) ?_ | refine OW_eqlB (by with_reducible exact und_bool) rfl rfl ?_ | refine OW_neqB (by with_reducible exact und_bool) rfl rfl ?_ | refine OW_idxS (by with_reducible exact und_bytes) one_u8 rfl rfl _ rfl (by omega) ?_ | refine OW_idxS (by with_reducible exact und_bytess) one_bytes rfl rfl _ rfl (by omega) ?_ | refine OW_load1 (by first | with_reducible exact one_u8 | with_reducible exact one_bytes) rfl _ (by assumption) ?_ | refine OW_lenS (by with_reducible exact und_Fs) rfl ?_ | refine OW_idxN und_Fs el_F rfl rfl _ rfl (by omega) ?_ | refine OW_fieldO fld_F0a rfl ?_ | refine OW_load1 one_int rfl _ (by assumption) ?_)
  exact hEnd.out) (k : B) : A := h ⟨k⟩
theorem fld_F0a : FldO Try.prog 26 0 0 := ⟨fun w a => by kernel_rfl⟩
/-- A reader and a writer in play, apart from each other. -/
def Two (w0 w : World) (gr : Nat) (s : List UInt8 × Int) (gw : Nat) (x : Bool × List UInt8) : Prop :=
  ∃ S1 S2, RR w gr S1 s ∧ WR w gw S2 x ∧ (∀ k, S1 k → ¬ S2 k) ∧ (∀ k, S1 k → w0.heap.size ≤ k) ∧ (∀ k, S2 k → w0.heap.size ≤ k) ∧ Ext w0 w
theorem Two.to {w0 w : World} {gr gw : Nat} {s : List UInt8 × Int} {x : Bool × List UInt8} (h : Two w0 w gr s gw x) : Ext w0 w := by obtain ⟨_, _, _, _, _, _, _, h⟩ := h; exact h
theorem Two.ext {w0 w w' : World} {gr gw : Nat} {s : List UInt8 × Int} {x : Bool × List UInt8} (h : Two w0 w gr s gw x) (hx : Ext w w') : Two w0 w' gr s gw x := by
  obtain ⟨S1, S2, h1, h2, h3, h4, h5, h6⟩ := h
  exact ⟨S1, S2, h1.ext hx, h2.ext hx, h3, h4, h5, h6.trans' hx⟩
theorem two_r {w0 w w' : World} {gr gw : Nat} {s s' : List UInt8 × Int} {x : Bool × List UInt8} {S1 S2 : Nat → Prop} (h1 : RR w gr S1 s) (h2 : WR w gw S2 x) (h3 : ∀ k, S1 k → ¬ S2 k) (h4 : ∀ k, S1 k → w0.heap.size ≤ k) (h5 : ∀ k, S2 k → w0.heap.size ≤ k) (h6 : Ext w0 w)
    (q2 : RR w' gr S1 s') (q3 : Keeps w w' (· = gr)) : WR w' gw S2 x ∧ Ext w0 w' :=
  ⟨h2.keeps q3 (fun k hk hh => h3 k (by have hh : k = gr := hh; rw [hh]; exact h1.in_) hk), q3.ext h6 (fun j hj => by have hj : j = gr := hj; subst hj; exact h4 j h1.in_)⟩
theorem two_w {w0 w w' : World} {gr gw : Nat} {s : List UInt8 × Int} {x' : Bool × List UInt8} {S1 S2 : Nat → Prop} (h1 : RR w gr S1 s) (h3 : ∀ k, S1 k → ¬ S2 k) (h4 : ∀ k, S1 k → w0.heap.size ≤ k) (h5 : ∀ k, S2 k → w0.heap.size ≤ k) (h6 : Ext w0 w)
    (q2 : WR w' gw (more S2 w w') x') (q3 : Keeps w w' S2) : Two w0 w' gr s gw x' :=
  ⟨S1, more S2 w w', h1.keeps q3 h3, q2, fun k hk hh => by rcases hh with hh | hh; exact h3 k hk hh; have := h1.bd k hk; omega, h4, fun k hk => by rcases hk with hk | hk; exact h5 k hk; have := h6.size; omega, q3.ext h6 h5⟩
theorem Two.callR {w0 w : World} {gr gw : Nat} {s s' : List UInt8 × Int} {x : Bool × List UInt8} {v : Value} {f : FuncId} {args : Array Value} (h : Two w0 w gr s gw x) (hc : ∀ S, RR w gr S s → Calls Try.prog f args w (RPost w gr S v s')) : Calls Try.prog f args w (fun en w' => en = .returned v ∧ Two w0 w' gr s' gw x) := by
  obtain ⟨S1, S2, h1, h2, h3, h4, h5, h6⟩ := h
  refine (hc S1 h1).mono ?_
  rintro en w' ⟨q1, q2, q3⟩
  have := two_r h1 h2 h3 h4 h5 h6 q2 q3
  exact ⟨q1, S1, S2, q2, this.1, h3, h4, h5, this.2⟩
theorem Two.callW {w0 w : World} {gr gw : Nat} {s : List UInt8 × Int} {x x' : Bool × List UInt8} {f : FuncId} {args : Array Value} (h : Two w0 w gr s gw x) (hc : ∀ S, WR w gw S x → Calls Try.prog f args w (WPost w gw S x')) : Calls Try.prog f args w (fun en w' => en = .returned (.pointer (some ⟨gw, 0, none⟩)) ∧ Two w0 w' gr s gw x') := by
  obtain ⟨S1, S2, h1, h2, h3, h4, h5, h6⟩ := h
  refine (hc S2 h2).mono ?_
  rintro en w' ⟨q1, q2, q3⟩
  exact ⟨q1, two_w h1 h3 h4 h5 h6 q2 q3⟩
theorem Two.useR {w0 w : World} {gr gw : Nat} {s : List UInt8 × Int} {x : Bool × List UInt8} {f : FuncId} {args : Array Value} {R : Ending → World → Prop} (h : Two w0 w gr s gw x) (hc : ∀ S, RR w gr S s → Calls Try.prog f args w R) : Calls Try.prog f args w R := by
  obtain ⟨S1, S2, h1, h2, h3, h4, h5, h6⟩ := h
  exact hc S1 h1
/-- What was read was written. -/
def Inv (b : List UInt8) (s : List UInt8 × Int) (x : Bool × List UInt8) : Prop := s.2 = 0 → x.1 = false ∧ x.2 ++ s.1 = b
theorem Inv.step {b : List UInt8} {s s' : List UInt8 × Int} {x : Bool × List UInt8} (ps : List (List UInt8)) (hb : b.length ≤ 65536) (h : Inv b s x) (hs : s'.2 = 0 → s.2 = 0 ∧ s.1 = ps.flatten ++ s'.1) : Inv b s' (addAll x ps) := by
  intro h0
  obtain ⟨h1, h2⟩ := hs h0
  obtain ⟨h3, h4⟩ := h h1
  obtain ⟨x1, z⟩ := x
  simp only at h3 h4
  subst h3
  rw [h2] at h4
  have hl := congrArg List.length h4
  simp only [List.length_append] at hl
  rw [addAll_ok ps z (by omega)]
  exact ⟨rfl, by rw [← h4]; simp⟩
theorem st_good {s : List UInt8 × Int} {n : Int} {ok : Bool} (h : (stepS s n ok).2 = 0) : s.2 = 0 ∧ 0 ≤ n ∧ n ≤ s.1.length ∧ ok = true ∧ fits s n = true ∧ stepS s n ok = (s.1.drop n.toNat, 0) := by
  unfold stepS at h ⊢
  split at h
  · rename_i hh; exact absurd h hh
  · rename_i h0
    have h0 : s.2 = 0 := by simpa using h0
    split at h
    · cases h
    · rename_i h1
      split at h
      · rename_i h2
        refine ⟨h0, by omega, by omega, h2, decide_eq_true ⟨h0, by omega, by omega⟩, ?_⟩
        rw [if_neg (by simpa using h0), if_neg h1, if_pos h2]
      · cases h
theorem head_drop {l : List UInt8} (h : 1 ≤ l.length) : l = [l.headD 0] ++ l.drop 1 := by
  cases l with
  | nil => simp at h
  | cons a l => rfl
theorem p_byte {s : List UInt8 × Int} (h : (stepS s 1 true).2 = 0) : s.2 = 0 ∧ s.1 = [[if fits s 1 then s.1.headD 0 else 0]].flatten ++ (stepS s 1 true).1 := by
  obtain ⟨h1, _, h3, _, h5, h6⟩ := st_good h
  rw [h5, h6]
  exact ⟨h1, by simpa using head_drop (l := s.1) (by omega)⟩
theorem p_int {s : List UInt8 × Int} (h : (stepS s 8 true).2 = 0) : s.2 = 0 ∧ s.1 = [putL (u64N (if fits s 8 then i64L (s.1.take 8) else 0)) 8].flatten ++ (stepS s 8 true).1 := by
  obtain ⟨h1, _, h3, _, h5, h6⟩ := st_good h
  rw [h5, h6, if_pos rfl, i64_there _ (by rw [List.length_take]; omega)]
  refine ⟨h1, ?_⟩
  simp
theorem p_flag {s : List UInt8 × Int} (h : (stepS s 1 (flOk s)).2 = 0) : s.2 = 0 ∧ s.1 = [[if (fits s 1 && decide (((s.1.headD 0).toNat : Int) = 1)) = true then 1 else 0]].flatten ++ (stepS s 1 (flOk s)).1 := by
  obtain ⟨h1, _, h3, h4, h5, h6⟩ := st_good h
  rw [h5, h6]
  refine ⟨h1, ?_⟩
  have hd := head_drop (l := s.1) (by omega)
  have hf : ((s.1.headD 0).toNat : Int) ≤ 1 := of_decide_eq_true h4
  have hh : s.1.headD 0 = (if decide (((s.1.headD 0).toNat : Int) = 1) = true then 1 else 0) := by
    by_cases h1 : ((s.1.headD 0).toNat : Int) = 1
    · rw [if_pos (decide_eq_true h1)]
      apply UInt8.toNat_inj.1
      have : (1 : UInt8).toNat = 1 := rfl
      omega
    · rw [if_neg (by simpa using h1)]
      apply UInt8.toNat_inj.1
      have : (0 : UInt8).toNat = 0 := rfl
      omega
  rw [Bool.true_and, ← hh]
  simpa using hd
theorem p_bytes {s : List UInt8 × Int} (h : (bytesS s).2 = 0) : s.2 = 0 ∧ s.1 = [putL (bytesV s).length 4, bytesV s].flatten ++ (bytesS s).1 := by
  unfold bytesS at h
  obtain ⟨h1, h2, h3, _, h5, h6⟩ := st_good h
  obtain ⟨k1, _, k3, k4, k5, k6⟩ := st_good h1
  refine ⟨k1, ?_⟩
  have hV : bytesV s = (s.1.drop 4).take (lenN s).toNat := by
    unfold bytesV
    rw [h5, if_pos rfl, k6]
    rfl
  have hS : bytesS s = ((s.1.drop 4).drop (lenN s).toNat, 0) := by
    unfold bytesS
    rw [h6, k6]
    rfl
  have hN : lenN s = loadL (s.1.take 4) := by
    unfold lenN
    rw [k5, k4]
    rfl
  rw [k6] at h3
  have h3 : lenN s ≤ ((s.1.drop 4).length : Int) := h3
  have hVl : (bytesV s).length = loadL (s.1.take 4) := by
    rw [hV, List.length_take]
    omega
  rw [hVl, putL_loadL 4 _ (by rw [List.length_take]; omega), hV, hS]
  simp only [List.flatten_cons, List.flatten_nil, List.append_nil, List.append_assoc]
  rw [List.take_append_drop, List.take_append_drop]
theorem p_tag {s : List UInt8 × Int} (h : (stepS s 32 true).2 = 0) : s.2 = 0 ∧ s.1 = [tagV s].flatten ++ (stepS s 32 true).1 := by
  obtain ⟨h1, _, h3, _, h5, h6⟩ := st_good h
  unfold tagV
  rw [h5, h6, if_pos rfl]
  refine ⟨h1, ?_⟩
  simp
set_option maxHeartbeats 8000000 in
theorem walk (w : World) (v0 : Value) (b : List UInt8) (h0 : kBs.R w [v0] b) (v1 : Value) (l : List FD) (h1 : kFields.R w [v1] l) : Calls Try.prog 6 #[v0, v1] w (RetV w (.bool true)) := by
  obtain ⟨A, c, hv0, ⟨hcb, hcb2⟩, hb⟩ := h0
  obtain ⟨A1, c1, hv, hc1, hc2, hl⟩ := h1
  have hl : FS w A1 l := hl
  injection hv0 with hv0
  injection hv with hv
  subst hv; subst hv0
  refine calls_of_CW Try.func6 rfl (by simp [Try.ntmps6]) ?_
  rw [Try.ntmps6]
  refine go_LWireAgain (k := ?_)
  refine OW_callV Try.func29 (by kernel_rfl) rfl (awake4_any w) rfl ?_
  intro w1 hx1
  refine go_LWireAgain (k := ?_)
  refine OW_split 15 _ rfl (fun h => ?_) (fun h => ?_)
  · refine go_LWireAgain (k := ?_)
    exact bodyE_ret1 rfl (.bool true) rfl ⟨rfl, hx1⟩
  have hlb := of_decide_eq_false h
  clear h
  refine go_LWireAgain (k := ?_)
  refine CW_cond _ rfl (fun h => ?_) (fun h => ?_)
  · refine go_LWireAgain (k := ?_)
    exact bodyE_ret1 rfl (.bool true) rfl ⟨rfl, hx1⟩
  have hll := of_decide_eq_false h
  clear h
  refine go_LWireAgain (k := ?_)
  refine OW_callC Try.func32 (by kernel_rfl) rfl (newReader_any w1 A b c (hb.ext hx1) (by omega)) rfl ?_
  rintro en w2 ⟨r, rfl, hr2, hx2, hP2⟩
  rw [if_neg (by omega)] at hP2
  refine ⟨_, rfl, ?_⟩
  refine go_LWireAgain (k := ?_)
  refine OW_callC Try.func30 (by kernel_rfl) rfl (newWriter_any w2) rfl ?_
  rintro en w3 ⟨g, rfl, hg3, hx3, hW3⟩
  refine ⟨_, rfl, ?_⟩
  have hT3 : Two w w3 r (b, 0) g (false, []) := ⟨_, _, hP2.ext hx3, hW3, fun k hk hh => by
      rcases hk with hk | hk
      · exact hk
      · rcases hh with hh | hh
        · exact hh
        · omega, fun k hk => by rcases hk with hk | hk; exact hk.elim; have := hx1.size; omega, fun k hk => by rcases hk with hk | hk; exact hk.elim; have := hx1.size; have := hx2.size; omega, hx1.trans' (hx2.trans' hx3)⟩
  have hI3 : Inv b (b, 0) (false, []) := fun _ => ⟨rfl, rfl⟩
  have hb3 : b.length ≤ 65536 := by omega
  clear hP2 hW3
  refine go_LWireAgain (k := ?_)
  refine CW_meetB (fun e' w' => e' 0 = .slice A b.length c ∧ e' 5 = .pointer (some ⟨r, 0, none⟩) ∧ e' 6 = .pointer (some ⟨g, 0, none⟩) ∧ ∃ st x, Two w w' r st g x ∧ Inv b st x) ?_ ?_
  · refine go_LWireAgain (k := ?_)
    refine CW_loop (fun e' w' => ∃ (k : Nat) (st : List UInt8 × Int) (x : Bool × List UInt8), k ≤ l.length ∧ e' 0 = .slice A b.length c ∧ e' 1 = .slice A1 l.length c1 ∧ e' 5 = .pointer (some ⟨r, 0, none⟩) ∧ e' 6 = .pointer (some ⟨g, 0, none⟩) ∧ e' 7 = .int .i64 k ∧ Two w w' r st g x ∧ Inv b st x) (fun e' _ => l.length - (intOf (e' 7)).toNat) ⟨0, _, _, Nat.zero_le _, rfl, rfl, rfl, rfl, rfl, hT3, hI3⟩ ?_
    rintro e' w4 ⟨k, st, x, hk, e0, e1, e5, e6, e7, hT4, hI4⟩
    rw [upd_self e0, upd_self e1, upd_self e5, upd_self e6, upd_self e7]
    refine go_LWireAgain (k := ?_)
    refine CW_cond _ rfl (fun hh => ?_) (fun hh => ?_)
    · have hlt : k < l.length := by have := of_decide_eq_true hh; omega
      clear hh
      obtain ⟨ad, A', c', hA, hat, hok⟩ := hl.get hlt
      subst hA
      generalize l[k] = f at *
      have hx4 := hT4.to
      have m0 : w4.cell? ((ad.add (k * 35)).add 0) = some (.int .i64 f.kind) := hat.ext hx4 0 _ rfl
      refine go_LWireAgain (k := ?_)
      refine CW_meetB (fun e' w' => e' 0 = .slice A b.length c ∧ e' 1 = .slice (some ad) l.length c1 ∧ e' 5 = .pointer (some ⟨r, 0, none⟩) ∧ e' 6 = .pointer (some ⟨g, 0, none⟩) ∧ e' 7 = .int .i64 k ∧ ∃ st x, Two w w' r st g x ∧ Inv b st x) ?_ ?_
      · refine go_LWireAgain (k := ?_)
        refine CW_cond _ rfl (fun hh => ?_) (fun hh => ?_)
        · clear hh
          refine go_LWireAgain (k := ?_)
          refine OW_callC Try.func19 (by kernel_rfl) rfl (hT4.callR fun S hS => rByte_any w4 r S _ hS) rfl ?_
          rintro en w5 ⟨rfl, hT5⟩
          refine ⟨_, rfl, ?_⟩
          refine go_LWireAgain (k := ?_)
          refine OW_callC Try.func35 (by kernel_rfl) rfl (hT5.callW fun S hS => wByte_any w5 g S _ hS _) rfl ?_
          rintro en w6 ⟨rfl, hT6⟩
          refine ⟨_, rfl, ?_⟩
          refine go_LWireAgain (k := ?_)
          exact ⟨rfl, rfl, rfl, rfl, rfl, rfl, _, _, hT6, hI4.step _ hb3 p_byte⟩
        clear hh
        refine go_LWireAgain (k := ?_)
        refine CW_cond _ rfl (fun hh => ?_) (fun hh => ?_)
        · clear hh
          refine go_LWireAgain (k := ?_)
          refine OW_callC Try.func20 (by kernel_rfl) rfl (hT4.callR fun S hS => rInt_any w4 r S _ hS) rfl ?_
          rintro en w5 ⟨rfl, hT5⟩
          refine ⟨_, rfl, ?_⟩
          refine go_LWireAgain (k := ?_)
          refine OW_callC Try.func31 (by kernel_rfl) rfl (hT5.callW fun S hS => wInt_any w5 g S _ hS _) rfl ?_
          rintro en w6 ⟨rfl, hT6⟩
          refine ⟨_, rfl, ?_⟩
          refine go_LWireAgain (k := ?_)
          exact ⟨rfl, rfl, rfl, rfl, rfl, rfl, _, _, hT6, hI4.step _ hb3 p_int⟩
        clear hh
        refine go_LWireAgain (k := ?_)
        refine CW_cond _ rfl (fun hh => ?_) (fun hh => ?_)
        · clear hh
          refine go_LWireAgain (k := ?_)
          refine OW_callC Try.func21 (by kernel_rfl) rfl (hT4.callR fun S hS => rFlag_any w4 r S _ hS) rfl ?_
          rintro en w5 ⟨rfl, hT5⟩
          refine ⟨_, rfl, ?_⟩
          refine go_LWireAgain (k := ?_)
          refine OW_callC Try.func36 (by kernel_rfl) rfl (hT5.callW fun S hS => wFlag_any w5 g S _ hS _) rfl ?_
          rintro en w6 ⟨rfl, hT6⟩
          refine ⟨_, rfl, ?_⟩
          refine go_LWireAgain (k := ?_)
          exact ⟨rfl, rfl, rfl, rfl, rfl, rfl, _, _, hT6, hI4.step _ hb3 p_flag⟩
        clear hh
        refine go_LWireAgain (k := ?_)
        refine CW_cond _ rfl (fun hh => ?_) (fun hh => ?_)
        · clear hh
          refine go_LWireAgain (k := ?_)
          obtain ⟨S1, S2, t1, t2, t3, t4, t5, t6⟩ := hT4
          have hbl := bytesV_len t1
          refine OW_callC Try.func22 (by kernel_rfl) rfl (rBytes_any w4 r S1 st t1) rfl ?_
          rintro en w5 ⟨A5, c5, rfl, ho5, hr5, hk5⟩
          refine ⟨_, rfl, ?_⟩
          obtain ⟨hw5, hx5⟩ := two_r t1 t2 t3 t4 t5 t6 hr5 hk5
          refine go_LWireAgain (k := ?_)
          refine OW_callC Try.func37 (by kernel_rfl) rfl (wBytes_any w5 g S2 x hw5 A5 (bytesV st) c5 (own_rd ho5) (fun ad ha _ hs => by have h1 := t2.bd _ hs; have h2 := (own_block ho5 ad ha).1; omega) (by omega)) rfl ?_
          rintro en w6 ⟨rfl, hw6, hk6⟩
          refine ⟨_, rfl, ?_⟩
          have hT6 := two_w hr5 t3 t4 t5 hx5 hw6 hk6
          refine go_LWireAgain (k := ?_)
          exact ⟨rfl, rfl, rfl, rfl, rfl, rfl, _, _, hT6, hI4.step _ hb3 p_bytes⟩
        clear hh
        refine go_LWireAgain (k := ?_)
        refine CW_cond _ rfl (fun hh => ?_) (fun hh => ?_)
        · clear hh
          refine go_LWireAgain (k := ?_)
          obtain ⟨S1, S2, t1, t2, t3, t4, t5, t6⟩ := hT4
          have hbl := bytesV_len t1
          refine OW_callC Try.func23 (by kernel_rfl) rfl (rText_any w4 r S1 st t1) rfl ?_
          rintro en w5 ⟨rfl, hr5, hk5⟩
          refine ⟨_, rfl, ?_⟩
          obtain ⟨hw5, hx5⟩ := two_r t1 t2 t3 t4 t5 t6 hr5 hk5
          refine go_LWireAgain (k := ?_)
          refine OW_callC Try.func38 (by kernel_rfl) rfl (wText_any w5 g S2 x hw5 ⟨(bytesV st).toArray⟩ (by simp; omega)) rfl ?_
          rintro en w6 ⟨rfl, hw6, hk6⟩
          refine ⟨_, rfl, ?_⟩
          have hT6 := two_w hr5 t3 t4 t5 hx5 hw6 hk6
          refine go_LWireAgain (k := ?_)
          exact ⟨rfl, rfl, rfl, rfl, rfl, rfl, _, _, hT6, hI4.step _ hb3 p_bytes⟩
        clear hh
        refine go_LWireAgain (k := ?_)
        refine CW_cond _ rfl (fun hh => ?_) (fun hh => ?_)
        · clear hh
          have htl := tagV_length st
          refine go_LWireAgain (k := ?_)
          refine OW_callC Try.func24 (by kernel_rfl) rfl (hT4.callR fun S hS => rTag_any w4 r S _ hS) rfl ?_
          rintro en w5 ⟨rfl, hT5⟩
          refine ⟨_, rfl, ?_⟩
          refine go_LWireAgain (k := ?_)
          refine OW_callC Try.func39 (by kernel_rfl) rfl (hT5.callW fun S hS => wTag_any w5 g S _ hS _ htl) rfl ?_
          rintro en w6 ⟨rfl, hT6⟩
          refine ⟨_, rfl, ?_⟩
          refine go_LWireAgain (k := ?_)
          exact ⟨rfl, rfl, rfl, rfl, rfl, rfl, _, _, hT6, hI4.step _ hb3 p_tag⟩
        refine go_LWireAgain (k := ?_)
        exact ⟨rfl, rfl, rfl, rfl, rfl, rfl, _, _, hT4, hI4⟩
      rintro e6 w6 ⟨q0, q1, q5, q6, q7, st6, x6, hT6, hI6⟩
      rw [upd_self q0, upd_self q1, upd_self q5, upd_self q6, upd_self q7]
      refine go_LWireAgain (k := ?_)
      refine ⟨⟨k + 1, _, _, by omega, rfl, rfl, rfl, rfl, rfl, hT6, hI6⟩, ?_⟩
      show l.length - ((k : Int) + 1).toNat < l.length - (k : Int).toNat
      omega
    · refine go_LWireAgain (k := ?_)
      exact ⟨rfl, rfl, rfl, rfl, st, x, hT4, hI4⟩
  rintro e5 w5 ⟨q0, q5, q6, st, x, hT5, hI5⟩
  rw [upd_self q0, upd_self q5, upd_self q6]
  refine go_LWireAgain (k := ?_)
  refine OW_callV Try.func27 (by kernel_rfl) rfl (hT5.useR fun S hS => rErr_any w5 r S _ hS) rfl ?_
  intro w6 hx6
  have hT6 := hT5.ext hx6
  have hx06 := hT6.to
  refine go_LWireAgain (k := ?_)
  refine CW_cond _ rfl (fun h => ?_) (fun h => ?_)
  · refine go_LWireAgain (k := ?_)
    exact bodyE_ret1 rfl (.bool true) rfl ⟨rfl, hx06⟩
  have hs0 : st.2 = 0 := by simpa using h
  clear h
  obtain ⟨hx0, hxs⟩ := hI5 hs0
  obtain ⟨x1, z⟩ := x
  simp only at hx0 hxs
  subst hx0
  obtain ⟨S1, S2, t1, t2, t3, t4, t5, t6⟩ := hT6
  have hWP : WPly w w6 g (false, z) := ⟨S2, t2, t5, t6⟩
  have hzl := congrArg List.length hxs
  rw [List.length_append] at hzl
  have hzt : b.take z.length = z := by rw [← hxs]; simp
  refine go_LWireAgain (k := ?_)
  refine OW_callC Try.func18 (by kernel_rfl) rfl (done_ply hWP) rfl ?_
  rintro en w7 ⟨A7, c7, rfl, hf7⟩
  refine ⟨_, rfl, ?_⟩
  have hb7 := hf7.bs
  have hc7 := hf7.cap
  have hx07 := hx06.trans' hf7.ext
  have t17 := t1.ext hf7.ext
  clear hf7 hWP
  refine go_LWireAgain (k := ?_)
  refine OW_callV Try.func26 (by kernel_rfl) rfl (rLeft_any w7 r S1 st t17) rfl ?_
  intro w8 hx8
  have hb8 := hb.ext (hx07.trans' hx8)
  refine go_LWireAgain (k := ?_)
  refine OW_sliceBs und_bytes one_u8 hb8 rfl hcb rfl rfl ⟨_, rfl⟩ 0 z.length rfl rfl (by omega) ?_
  intro A9 hb9 hl9
  rw [List.drop_zero, show z.length - 0 = z.length from rfl, hzt] at hb9
  rw [show z.length - 0 = z.length from rfl]
  refine go_LWireAgain (k := ?_)
  refine OW_callV Try.func40 (by kernel_rfl) rfl (sameL_any w8 A7 A9 z z c7 (c - 0) (hb7.ext hx8) hb9 hc7 (by omega)) rfl ?_
  intro w9 hx9
  rw [beq_self_eq_true]
  refine go_LWireAgain (k := ?_)
  exact bodyE_ret1 rfl (.bool true) rfl ⟨rfl, (hx07.trans' hx8).trans' hx9⟩
set_option maxRecDepth 100000 in
theorem lifted (os : Os) (started : os.Started) (H : Type) (enc : TypeId × Value → H) :
    ReturnsInHanded {} Try.checked os 6 .any (Rows.wireAgainSpec.pre6 enc Try.prog Try.f6 Rows.wireAgainRow.domain false) (Rows.wireAgainSpec.post enc Try.prog Try.f6 false true false false) := by
  refine returnsInHanded_of_change_sized (C := Try.checked) ownP started (by kernel_rfl) Try.func6
    (ChangeSpec.witness6 (enc := enc) (C := Try.checked) false ⟨#[], #[.slice none 0 0, .slice none 0 0], []⟩ 8 (by kernel_rfl) (by kernel_rfl) (by kernel_rfl) (by kernel_rfl)) ?_
  intro W base args ds gs before hval0 hW hcnd hwt0 _
  have hval : ∀ (j : Nat) t v, Try.f6.params[j]? = some t → args[j]? = some v → Value.okWide Try.prog W .any base t v := hval0
  have hW' := hW
  obtain ⟨p, q, hA0, hV, rfl, hfz, hnd⟩ := hW
  have hA : DataW.TrodAll enc Try.prog W 0 (fun _ => true) true Try.f6.params.toList args.toList ds p := hA0
  have hwt : (DataW.weightsEach Try.prog (Try.f6.params.toList ++ []) (ds ++ gs)).all (· ≤ reachBytes) = true := hwt0
  rw [Try.params6] at hA hval hwt
  obtain ⟨v0, vs0, d0, ds0, p0, q0, hargs, rfl, rfl, h0, r0⟩ := trodAll_cons hA
  obtain ⟨v1, vs1, d1, ds1, p1, q1, rfl, rfl, rfl, h1, r1⟩ := trodAll_cons r0
  obtain ⟨rfl, rfl, rfl⟩ := trodAll_nil r1
  obtain rfl : args = #[v0, v1] := by cases args; simp_all
  obtain ⟨rfl, rfl⟩ := trodVars_none hV
  have k0 := h0
  have lt0 : ∀ x ∈ p0, x.block < W.heap.size := by obtain ⟨m, hm⟩ := k0; exact DataW.trod_lt m _ _ _ hm
  have wk0 : WOk Try.prog 22 d0 := wok_each hwt 0 rfl rfl
  obtain ⟨a0, b0⟩ := kd_slice kBs und_bytes (hval 0 22 v0 rfl rfl) h0 wk0
  have k1 := h1
  have lt1 : ∀ x ∈ p1, x.block < W.heap.size := by obtain ⟨m, hm⟩ := k1; exact DataW.trod_lt m _ _ _ hm
  have wk1 : WOk Try.prog 28 d1 := wok_each hwt 1 rfl rfl
  obtain ⟨a1, b1⟩ := kd_slice kFields und_Fs (hval 1 28 v1 rfl rfl) h1 wk1
  clear hA0 hval0 hwt0
  refine (walk W v0 a0 b0 v1 a1 b1).mono fun e W' ⟨he, bel⟩ => ?_
  subst he
  exact ⟨_, rfl, _, _, _, [], _, [], hW', trodAll_mk1 (shut_bool Try.underlying4 _), (trodAll_cons_mk (Below.trod laidP (by kernel_rfl) (of_decide_eq_true (by kernel_rfl)) k0 bel lt0) (trodAll_cons_mk (Below.trod laidP (by kernel_rfl) (of_decide_eq_true (by kernel_rfl)) k1 bel lt1) trodAll_mk0)), rfl, bel.frame _, fun h => by cases h⟩
theorem over : Rows.wireAgainRow.holds Try.pinned (OpenSpec.ofChange Rows.wireAgainSpec) :=
  OpenClaim.holds_of_wide 6 Try.f6 rfl rfl rfl rfl rfl rfl rfl ⟨rfl, rfl, rfl, rfl, rfl⟩ rfl rfl rfl rfl rfl (by kernel_rfl) Try.func6 (by kernel_rfl)
    (of_decide_eq_true (by kernel_rfl)) (by unfold Func.isWrapper; first | (rw [if_pos (by decide +kernel)]; kernel_rfl) | (rw [if_neg (by decide +kernel)]; exact ⟨rfl, rfl⟩))
    (fun os started H enc _ => lifted os started H enc)
theorem proved : Rows.WireAgainSaid := over
#print axioms proved
end Go.Proofs.Ythhphmbhlddihaa.lawWireAgain
