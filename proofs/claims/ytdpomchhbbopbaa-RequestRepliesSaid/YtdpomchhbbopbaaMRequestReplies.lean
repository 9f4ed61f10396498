/- RequestReplies: any bytes are read as the reply that the chapter says, or refused; what is told is the caller's own. No condition. -/
import Derived.Test.YtdpomchhbbopbaaGr3
import Derived.Test.YtdpomchhbbopbaaGr15
import Derived.Test.YtdpomchhbbopbaaGr16
namespace Go.Proofs.Ytdpomchhbbopbaa.lawRequestReplies
open Go.ChangeShapes Go.WideShapes Go.ChangeAt Go.RowKit
set_option linter.unusedVariables false
set_option maxRecDepth 4000
theorem go_LRequestReplies {A B : Prop} (h : Held B → A := by
  intro hEnd
  repeat (first | refine OW_fieldF fld_P2 rfl ?_ | refine OW_lenS und_strs rfl ?_ | refine OW_neqF rfl rfl rfl ?_ | refine OW_moveV (.int _ _) rfl ?_ | refine OW_moveV (.slice _ _ _) rfl ?_ | refine OW_moveV (.bool _) rfl ?_ | refine OW_moveV (.pointer _) rfl ?_ | refine OW_moveV (.string _) rfl ?_ | refine OW_moveV (.agg _) rfl ?_ | refine OW_moveV (.tuple _) rfl ?_ | refine OW_nil ?_ | refine thenE_normal ?_ | refine CW_seq ?_ | refine CW_region (by kernel_rfl) ?_ | refine OW_assignV (.int _ _) rfl ?_ | refine OW_assignV (.slice _ _ _) rfl ?_ | refine OW_assignV (.bool _) rfl ?_ | refine OW_assignV (.pointer _) rfl ?_ | refine OW_assignV (.string _) rfl ?_ | refine OW_assignV (.agg _) rfl ?_ | refine OW_assignV (.tuple _) rfl ?_ | refine OW_addI rfl rfl (by omega) ?_ | refine OW_subI rfl rfl (by omega) ?_ | refine OW_mulI rfl rfl (by omega) ?_ | refine OW_lss rfl rfl ?_ | refine OW_extract rfl rfl ?_ | refine OW_gtr rfl rfl ?_ | refine OW_leq rfl rfl ?_ | refine OW_geq rfl rfl ?_ | refine OW_eql rfl rfl ?_ | refine OW_neq rfl rfl ?_ | refine OW_not rfl ?_ | refine OW_pickT rfl _ rfl ?_ | refine OW_pickF rfl (.bool _) rfl ?_ | refine OW_pickB rfl rfl rfl ?_ | refine OW_move ?_ | refine OW_assign ?_ | refine OW_pass rfl ?_ | refine OW_take rfl ?_ | refine OW_lenS (by first | with_reducible exact und_bytes | with_reducible exact und_bytess) rfl ?_ | refine OW_convInt (by first | with_reducible exact und_u8 | with_reducible exact und_u64 | with_reducible exact und_int | with_reducible exact und_u32) (by first | with_reducible exact und_u8 | with_reducible exact und_u64 | with_reducible exact und_int | with_reducible exact und_u32) rfl ?_ | refine OW_add rfl rfl ?_ | refine OW_sub rfl rfl ?_ | refine OW_mul rfl rfl ?_ | refine OW_min2 rfl rfl ?_ | refine OW_max2 rfl rfl ?_ | refine OW_neg rfl ?_ | refine CW_block ?_ | refine CW_condT rfl ?_ | refine CW_condF rfl ?_ | refine CW_exit ?_ | refine CW_ret ?_ | refine CW_skip ?_ | refine LW_seq ?_ | refine LW_regC ?_ | refine LW_condC ?_ | refine LW_regF ?_ | refine LW_condF ?_ | refine FW_seq ?_ | refine FW_region (by kernel_rfl) ?_ | refine FW_block ?_ | refine FW_condT rfl ?_ | refine FW_condF rfl ?_ | refine FW_exit ?_ | refine FW_ret ?_ | refine FW_skip ?_ | refine LW_ret ?_ | refine LW_skip ?_ | refine thenE_exit ?_ | refine thenE_ret ?_ | refine inBlockE_normal ?_ | refine inBlockE_same ?_ | refine inBlockE_ret ?_ | refine inBlockE_ne (by rfl) ?_ | refine OW_eqlB (by with_reducible exact und_bool) rfl rfl ?_ | refine OW_neqB (by with_reducible exact und_bool) rfl rfl ?_ | refine OW_idxS (by with_reducible exact und_bytes) one_u8 rfl rfl _ rfl (by omega) ?_ | refine OW_idxS (by with_reducible exact und_bytess) one_bytes rfl rfl _ rfl (by omega) ?_ | refine OW_load1 (by first | with_reducible exact one_u8 | with_reducible exact one_bytes) rfl _ (by assumption) ?_ | refine OW_load1 (by first | with_reducible exact one_int | with_reducible exact one_str | with_reducible exact one_strs | with_reducible exact one_errno) rfl _ (by assumption) ?_)
  exact hEnd.out) (k : B) : A := h ⟨k⟩
set_option maxHeartbeats 8000000 in
theorem walk (w : World) (A : Option Addr) (c : Nat) (b : List UInt8) (ha : Bs w A b) (hca : b.length ≤ c) : Calls Try.prog 5 #[.slice A b.length c] w (RetV w (.bool true)) := by
  refine calls_of_CW Try.func5 rfl (by simp [Try.ntmps5]) ?_
  rw [Try.ntmps5]
  refine go_LRequestReplies (k := ?_)
  refine CW_cond _ rfl (fun hh => ?_) (fun hh => ?_)
  · refine go_LRequestReplies (k := ?_)
    exact bodyE_ret1 rfl (.bool true) rfl ⟨rfl, Ext.rfl' w⟩
  have hl : b.length ≤ 3000 := by have := of_decide_eq_false hh; omega
  clear hh
  refine go_LRequestReplies (k := ?_)
  refine OW_callC Try.func27 (by kernel_rfl) rfl (refParseReply_any w A c b ha hca (by omega)) rfl ?_
  rintro en w1 ⟨B, d, rfl, hO1, hx1⟩
  refine ⟨_, rfl, ?_⟩
  have hP := fun w (h : Ext w1 w) => parseReply_any w A c b (ha.ext (hx1.trans' h)) (by omega)
  have hR1 := parR_ok hO1
  have hRK := fun (w : World) B d hO => parR_ok (w := w) (base := w1.heap.size) (B := B) (d := d) (b := b) hO
  obtain ⟨r, hr⟩ : ∃ r, parR b = r := ⟨_, rfl⟩
  obtain ⟨n, hn⟩ : ∃ n, parE b = n := ⟨_, rfl⟩
  have hRO := fun (w : World) (base : Nat) B d hO => parR_ok (w := w) (base := base) (B := B) (d := d) (b := b) hO
  rw [hr] at hO1 hR1 hP hRO
  rw [hn] at hP
  rw [hr, hn]
  clear hRK
  have hrl := fun v => rcells_length (v := v) hR1.l
  have hcp := hR1.cap
  refine go_LRequestReplies (k := ?_)
  refine OW_allocA agg_Rep ?_
  intro w2 g3 hb2 hg3 hlt3 hx2
  refine go_LRequestReplies (k := ?_)
  refine OW_storeA agg_Rep rfl (rcells r (.slice B r.keys.length d)) rfl (hrl _) hb2 (by kernel_rfl) (rcells_one r B d) ?_
  intro w3 hb3 hgr3
  have hK3 : Keeps w2 w3 (· = g3) := Keeps.of_only hgr3 rfl
  have hx3 : Ext w1 w3 := hK3.ext hx2 (fun j hj => by have hj : j = g3 := hj; omega)
  replace hR1 := hR1.ext hx3
  clear hb2 hgr3 hK3
  refine go_LRequestReplies (k := ?_)
  refine CW_loop (fun e' w' => ∃ k : Nat, k ≤ 2 ∧ e' 0 = .slice A b.length c ∧ e' 3 = .pointer (some ⟨g3, 0, none⟩) ∧ e' 4 = .int .i64 n ∧ e' 5 = .int .i64 k ∧ Ext w3 w') (fun e' _ => 2 - (intOf (e' 5)).toNat) ⟨0, by omega, rfl, rfl, rfl, rfl, Ext.rfl' _⟩ ?_
  rintro e' w4 ⟨k, hk, e0, e3, e4, e5, hx4⟩
  rw [upd_self e0, upd_self e3, upd_self e4, upd_self e5]
  have hx14 := hx3.trans' hx4
  have hbW := hb3.ext hx4
  have hRW := hR1.ext hx4
  refine go_LRequestReplies (k := ?_)
  refine CW_cond _ rfl (fun hh => ?_) (fun hh => ?_)
  rotate_left 1
  · refine go_LRequestReplies (k := ?_)
    exact bodyE_ret1 rfl (.bool true) rfl ⟨rfl, hx1.trans' hx14⟩
  have hlt : k < 2 := by have := of_decide_eq_true hh; omega
  clear hh
  refine go_LRequestReplies (k := ?_)
  refine OW_callC Try.func28 (by kernel_rfl) rfl (hP w4 hx14) rfl ?_
  rintro en w5 ⟨B5, d5, rfl, hO5, hx5⟩
  refine ⟨_, rfl, ?_⟩
  have hR5 := hRO _ _ _ _ hO5
  have hbd5 := own_block hO5
  refine go_LRequestReplies (k := ?_)
  refine OW_allocA agg_Rep ?_
  intro w6 g6 hb6 hg6 hlt6 hx6
  refine go_LRequestReplies (k := ?_)
  refine OW_storeA agg_Rep rfl (rcells r (.slice B5 r.keys.length d5)) rfl (hrl _) hb6 (by kernel_rfl) (rcells_one r B5 d5) ?_
  intro w7 hb7 hgr7
  have hb7 : Blk w7 g6 29 (rcells r (.slice B5 r.keys.length d5)).toArray := hb7
  have hK7 : Keeps w6 w7 (· = g6) := Keeps.of_only hgr7 rfl
  have hx57 : Ext w5 w7 := hK7.ext hx6 (fun j hj => by have hj : j = g6 := hj; omega)
  have hx47 := hx5.trans' hx57
  have hO7 := own_ext hO5 hx57
  replace hR5 := hR5.ext hx57
  have hb3w := hbW.ext hx47
  clear hb6 hgr7 hK7 hO5
  refine go_LRequestReplies (k := ?_)
  refine OW_loadX agg_Rep rfl (rcells r (.slice B5 r.keys.length d5)) (hrl _) hb7.atL ?_
  refine go_LRequestReplies (k := ?_)
  refine OW_loadX agg_Rep rfl (rcells r (.slice B r.keys.length d)) (hrl _) hb3w.atL ?_
  refine go_LRequestReplies (k := ?_)
  refine OW_callV Try.func29 (by kernel_rfl) rfl (sameReply_any w7 r B5 B d5 d hR5 (hRW.ext hx47)) rfl ?_
  intro w8 hx8
  replace hb7 := hb7.ext hx8
  have hO8 := own_ext hO7 hx8
  have hx48 := hx47.trans' hx8
  have s5 := hx5.size
  have hne : ∀ ad, B5 = some ad → ad.block ≠ g6 := fun ad h hh => by have := hbd5 ad h; omega
  clear hO7 hb3w
  refine go_LRequestReplies (k := ?_)
  refine CW_meetB (fun e' w' => e' 0 = .slice A b.length c ∧ e' 3 = .pointer (some ⟨g3, 0, none⟩) ∧ e' 4 = .int .i64 n ∧ e' 5 = .int .i64 k ∧ Ext w4 w') ?_ ?_
  · refine CW_loop (fun e' w' => ∃ (j : Nat) (xs : List Value), j ≤ r.keys.length ∧ e' 0 = .slice A b.length c ∧ e' 3 = .pointer (some ⟨g3, 0, none⟩) ∧ e' 4 = .int .i64 n ∧ e' 5 = .int .i64 k ∧ e' 6 = .pointer (some ⟨g6, 0, none⟩) ∧ e' 8 = .int .i64 j ∧ Ext w4 w' ∧ Blk w' g6 29 (rcells r (.slice B5 r.keys.length d5)).toArray ∧ w'.ownsRow w4.heap.size 9 1 (.slice B5 r.keys.length d5) r.keys.length xs) (fun e' _ => r.keys.length - (intOf (e' 8)).toNat) ⟨0, _, Nat.zero_le _, rfl, rfl, rfl, rfl, rfl, rfl, hx48, hb7, hO8⟩ ?_
    clear hb7 hO8
    rintro e' w9 ⟨j, xs, hj, f0, f3, f4, f5, f6, f8, hx9, hb9, hO9⟩
    rw [upd_self f0, upd_self f3, upd_self f4, upd_self f5, upd_self f6, upd_self f8]
    have m2 : w9.cell? ⟨g6, 2, none⟩ = some (.slice B5 r.keys.length d5) := hb9.cell 2
    refine go_LRequestReplies (k := ?_)
    refine CW_cond _ rfl (fun hh => ?_) (fun hh => ?_)
    rotate_left 1
    · refine go_LRequestReplies (k := ?_)
      exact ⟨rfl, rfl, rfl, rfl, rfl, hx9⟩
    have hjl : j < r.keys.length := by have := of_decide_eq_true hh; omega
    clear hh
    obtain ⟨g, cur, hB, hbg, hbk, hcs, hnc, hcm, htk⟩ := own_blk hO9 (by omega)
    subst hB
    have hgn : g ≠ g6 := hne _ rfl
    refine go_LRequestReplies (k := ?_)
    refine OW_idxSB und_strs one_str rfl rfl j rfl hjl ?_
    refine OW_storeB one_str rfl (stv [115, 112, 111, 105, 108, 116]) rfl rfl hbk (by omega) ?_
    intro w10 hb10 hgr10
    have hK : Keeps w9 w10 (· = g) := Keeps.of_only hgr10 rfl
    refine go_LRequestReplies (k := ?_)
    refine ⟨⟨j + 1, _, by omega, rfl, rfl, rfl, rfl, rfl, rfl, hK.ext hx9 (fun i hi => by have hi : i = g := hi; omega), hb9.keeps hK (fun hh => hgn hh.symm), own_of_blk hbg hb10 (by simpa using hcs) hnc hcm rfl⟩, ?_⟩
    show r.keys.length - ((j : Int) + 1).toNat < r.keys.length - (j : Int).toNat
    omega
  clear hb7 hO8 hbW hRW
  rintro e' w9 ⟨f0, f3, f4, f5, hx9⟩
  rw [upd_self f0, upd_self f3, upd_self f4, upd_self f5]
  refine go_LRequestReplies (k := ?_)
  refine ⟨⟨k + 1, by omega, rfl, rfl, rfl, rfl, hx4.trans' hx9⟩, ?_⟩
  show 2 - ((k : Int) + 1).toNat < 2 - (k : Int).toNat
  omega
set_option maxRecDepth 100000 in
theorem lifted (os : Os) (started : os.Started) (H : Type) (enc : TypeId × Value → H) :
    ReturnsInHanded {} Try.checked os 5 .any (Rows.requestRepliesSpec.pre6 enc Try.prog Try.f5 Rows.requestRepliesRow.domain false) (Rows.requestRepliesSpec.post enc Try.prog Try.f5 false true false false) := by
  refine returnsInHanded_of_change (C := Try.checked) ownP started (by kernel_rfl) Try.func5
    (ChangeSpec.witness6 (enc := enc) (C := Try.checked) false ⟨#[], #[.slice none 0 0], []⟩ 8 (by kernel_rfl) (by kernel_rfl) (by kernel_rfl) (by kernel_rfl)) ?_
  intro W base args ds gs before hval0 hW hcnd _
  have hval : ∀ (j : Nat) t v, Try.f5.params[j]? = some t → args[j]? = some v → Value.okWide Try.prog W .any base t v := hval0
  have hW' := hW
  obtain ⟨p, q, hA0, hV, rfl, hfz, hnd⟩ := hW
  have hA : DataW.TrodAll enc Try.prog W 0 (fun _ => true) true Try.f5.params.toList args.toList ds p := hA0
  rw [Try.params5] at hA hval
  obtain ⟨v0, vs0, d0, ds0, p0, q0, hargs, rfl, rfl, h0, r0⟩ := trodAll_cons hA
  obtain ⟨rfl, rfl, rfl⟩ := trodAll_nil r0
  obtain rfl : args = #[v0] := by cases args; simp_all
  obtain ⟨rfl, rfl⟩ := trodVars_none hV
  have k0 := h0
  have lt0 : ∀ x ∈ p0, x.block < W.heap.size := by obtain ⟨m, hm⟩ := k0; exact DataW.trod_lt m _ _ _ hm
  obtain ⟨A0, c0, l0, rfl, b0, n0⟩ := open_bytes Try.underlying31 Try.underlying5 (by kernel_rfl) (hval 0 31 v0 rfl rfl) h0
  clear hA0 hval0
  refine (walk W A0 c0 l0 b0 n0).mono fun e W' ⟨he, bel⟩ => ?_
  subst he
  exact ⟨_, rfl, _, _, _, [], _, [], hW', trodAll_mk1 (shut_bool Try.underlying4 _), (trodAll_cons_mk (Below.trod laidP (by kernel_rfl) (of_decide_eq_true (by kernel_rfl)) k0 bel lt0) trodAll_mk0), rfl, bel.frame _, fun h => by cases h⟩
theorem over : Rows.requestRepliesRow.holds Try.pinned (OpenSpec.ofChange Rows.requestRepliesSpec) :=
  OpenClaim.holds_of_wide 5 Try.f5 rfl rfl rfl rfl rfl rfl rfl ⟨rfl, rfl, rfl, rfl, rfl⟩ rfl rfl rfl rfl rfl (by kernel_rfl) Try.func5 (by kernel_rfl)
    (of_decide_eq_true (by kernel_rfl)) (by unfold Func.isWrapper; first | (rw [if_pos (by decide +kernel)]; kernel_rfl) | (rw [if_neg (by decide +kernel)]; exact ⟨rfl, rfl⟩))
    (fun os started H enc _ => lifted os started H enc)
theorem proved : Rows.RequestRepliesSaid := over
#print axioms proved
end Go.Proofs.Ytdpomchhbbopbaa.lawRequestReplies
