/- Walks: frames joined; the chapter's examples. -/
import Derived.Test.YtdphahphbaebkaaFrm3
namespace Go.Proofs.Ytdphahphbaebkaa
open Go Go.RowKit
set_option linter.unusedVariables false
set_option maxRecDepth 4000
theorem go_Frm4 {A B : Prop} (h : Held B → A := by
  intro hEnd
  repeat (first | refine OW_moveV (.int _ _) rfl ?_ | refine OW_moveV (.slice _ _ _) rfl ?_ | refine OW_moveV (.bool _) rfl ?_ | refine OW_moveV (.pointer _) rfl ?_ | refine OW_moveV (.string _) rfl ?_ | refine OW_moveV (.agg _) rfl ?_ | refine OW_moveV (.tuple _) rfl ?_ | refine OW_nil ?_ | refine thenE_normal ?_ | refine CW_seq ?_ | refine CW_region (by kernel_rfl) ?_ | refine OW_assignV (.int _ _) rfl ?_ | refine OW_assignV (.slice _ _ _) rfl ?_ | refine OW_assignV (.bool _) rfl ?_ | refine OW_assignV (.pointer _) rfl ?_ | refine OW_assignV (.string _) rfl ?_ | refine OW_assignV (.agg _) rfl ?_ | refine OW_assignV (.tuple _) rfl ?_ | refine OW_addI rfl rfl (by omega) ?_ | refine OW_subI rfl rfl (by omega) ?_ | refine OW_mulI rfl rfl (by omega) ?_ | refine OW_lss rfl rfl ?_ | refine OW_extract rfl rfl ?_ | refine OW_gtr rfl rfl ?_ | refine OW_leq rfl rfl ?_ | refine OW_geq rfl rfl ?_ | refine OW_eql rfl rfl ?_ | refine OW_neq rfl rfl ?_ | refine OW_not rfl ?_ | refine OW_pickT rfl _ rfl ?_ | refine OW_pickF rfl (.bool _) rfl ?_ | refine OW_pickB rfl rfl rfl ?_ | refine OW_move ?_ | refine OW_assign ?_ | refine OW_pass rfl ?_ | refine OW_take rfl ?_ | refine OW_lenS (by first | with_reducible exact und_bytes | with_reducible exact und_bytess) rfl ?_ | refine OW_convInt (by first | with_reducible exact und_u8 | with_reducible exact und_u64 | with_reducible exact und_int | with_reducible exact und_u32) (by first | with_reducible exact und_u8 | with_reducible exact und_u64 | with_reducible exact und_int | with_reducible exact und_u32) rfl ?_ | refine OW_add rfl rfl ?_ | refine OW_sub rfl rfl ?_ | refine OW_mul rfl rfl ?_ | refine OW_min2 rfl rfl ?_ | refine OW_max2 rfl rfl ?_ | refine OW_neg rfl ?_ | refine CW_block ?_ | refine CW_condT rfl ?_ | refine CW_condF rfl ?_ | refine CW_exit ?_ | refine CW_ret ?_ | refine CW_skip ?_ | refine LW_seq ?_ | refine LW_regC ?_ | refine LW_condC ?_ | refine LW_regF ?_ | refine LW_condF ?_ | refine FW_seq ?_ | refine FW_region (by kernel_rfl) ?_ | refine FW_block ?_ | refine FW_condT rfl ?_ | refine FW_condF rfl ?_ | refine FW_exit ?_ | refine FW_ret ?_ | refine FW_skip ?_ | refine LW_ret ?_ | refine LW_skip ?_ | refine thenE_exit ?_ | refine thenE_ret ?_ | refine inBlockE_normal ?_ | refine inBlockE_same ?_ | refine inBlockE_ret ?_ | refine inBlockE_ne (by rfl) ?_ | refine OW_eqlB (by with_reducible exact und_bool) rfl rfl ?_ | refine OW_neqB (by with_reducible exact und_bool) rfl rfl ?_ | refine OW_idxS (by with_reducible exact und_bytes) one_u8 rfl rfl _ rfl (by omega) ?_ | refine OW_idxS (by with_reducible exact und_bytess) one_bytes rfl rfl _ rfl (by omega) ?_ | refine OW_load1 (by first | with_reducible exact one_u8 | with_reducible exact one_bytes) rfl _ (by assumption) ?_ | refine OW_lenS und_ints rfl ?_ | refine OW_idxS und_bytess one_bytes rfl rfl _ rfl (by omega) ?_)
  exact hEnd.out) (k : B) : A := h ⟨k⟩
theorem frame_head (p y : List UInt8) : (frameB p ++ y).take 4 = putL p.length 4 := by
  unfold frameB sealB
  rw [List.append_assoc, List.append_assoc, List.take_append_of_le_length (by rw [putL_length]; exact Nat.le_refl _), List.take_of_length_le (by rw [putL_length]; exact Nat.le_refl _)]
theorem nextL_cut {p y : List UInt8} {c : Nat} (hp : p.length ≤ 65536) (hc : c < p.length + 12) : nextL ((frameB p ++ y).take c) = none := by
  cases h : nextL ((frameB p ++ y).take c) with
  | none => rfl
  | some q =>
    obtain ⟨h1, h2, h3⟩ := nextL_some h
    exfalso
    have hcl : ((frameB p ++ y).take c).length ≤ c := by rw [List.length_take]; omega
    have h4 := congrArg (List.take 4) h3
    rw [List.take_take, Nat.min_eq_left (by omega), List.take_take, Nat.min_eq_left (by omega), frame_head] at h4
    have h5 := frame_head q []
    rw [List.append_nil] at h5
    rw [h5] at h4
    have h6 := congrArg loadL h4
    rw [loadL_putL 4 _ (by omega), loadL_putL 4 _ (by omega)] at h6
    omega
theorem framesB_take (l : List (List UInt8)) (k : Nat) : framesB l = framesB (l.take k) ++ framesB (l.drop k) := by
  rw [← framesB_append, List.take_append_drop]
/-- A beginning of some frames. -/
theorem isAll_cut {l : List (List UInt8)} (hl : ∀ p ∈ l, p.length ≤ 65536) {k cut : Nat} (hk : (framesB (l.take k)).length ≤ cut) (hc : cut ≤ (framesB l).length) (h : ∀ (hlt : k < l.length), cut < (framesB (l.take (k + 1))).length) : IsAll ((framesB l).take cut) (l.take k) := by
  have hle : (framesB (l.take k)).length ≤ ((framesB l).take cut).length := by rw [List.length_take]; omega
  refine ⟨hle, ?_, ?_, fun p hp => hl p (List.mem_of_mem_take hp)⟩
  · rw [List.take_take, Nat.min_eq_left hk]
    rw [framesB_take l k, List.take_append_of_le_length (Nat.le_refl _), List.take_of_length_le (Nat.le_refl _)]
  · rw [List.drop_take, framesB_take l k, List.drop_append_of_le_length (Nat.le_refl _), List.drop_of_length_le (Nat.le_refl _), List.nil_append]
    by_cases hlt : k < l.length
    · have h2 := h hlt
      rw [take_succ_get _ _ hlt, framesB_snoc, List.length_append, frameB_length] at h2
      rw [List.drop_eq_getElem_cons hlt, framesB_cons]
      exact nextL_cut (hl _ (List.getElem_mem hlt)) (by omega)
    · rw [List.drop_of_length_le (by omega)]
      simp [framesB, nextL]
theorem isAll_frames {l : List (List UInt8)} (hl : ∀ p ∈ l, p.length ≤ 65536) {rest : List UInt8} (h : nextL rest = none) : IsAll (framesB l ++ rest) l :=
  ⟨by rw [List.length_append]; omega, by rw [List.take_append_of_le_length (Nat.le_refl _), List.take_of_length_le (Nat.le_refl _)], by rw [List.drop_append_of_le_length (Nat.le_refl _), List.drop_of_length_le (Nat.le_refl _), List.nil_append]; exact h, hl⟩
/-- Where the frames end. -/
def endsL (l : List (List UInt8)) : List Int := (List.range l.length).map fun i => ((framesB (l.take (i + 1))).length : Int)
theorem endsL_length (l : List (List UInt8)) : (endsL l).length = l.length := by simp [endsL]
theorem endsL_get {l : List (List UInt8)} {k : Nat} (h : k < l.length) : (endsL l)[k]'(by rw [endsL_length]; exact h) = ((framesB (l.take (k + 1))).length : Int) := by simp [endsL]
theorem info_int : (Try.prog.info? 3).map (fun i => (i.zero, i.size, i.bytes)) = some (some (.int .i64 0), 1, 8) := by kernel_rfl
theorem own_kept_other {w w' : World} {b1 b2 : Nat} {T1 T2 : TypeId} {A B : Option Addr} {n c m d : Nat} {xs ys : List Value} (h1 : w.ownsRow b1 T1 1 (.slice A n c) n xs) (h2 : w.ownsRow b2 T2 1 (.slice B m d) m ys) (hne : T1 ≠ T2) (hg : w.grownBy w' (Value.ownBlock (.slice A n c))) : w'.ownsRow b2 T2 1 (.slice B m d) m ys :=
  own_keeps (S := fun k => ∃ ad, A = some ad ∧ ad.block = k) h2 (Keeps.of_grown hg (fun g hg => by
    cases A with
    | none => cases hg
    | some ad => cases hg; exact ⟨ad, rfl, rfl⟩)) (fun b hb ⟨a, ha, hab⟩ => own_ne_own h1 h2 hne a b ha hb hab)
theorem grown_ext {w0 w w' : World} {A : Option Addr} {n c : Nat} {T : TypeId} {xs : List Value} (h : Ext w0 w) (ho : w.ownsRow w0.heap.size T 1 (.slice A n c) n xs) (hg : w.grownBy w' (Value.ownBlock (.slice A n c))) : Ext w0 w' :=
  (Keeps.of_grown (S := fun k => w0.heap.size ≤ k) hg (fun k hk => (ho.lt k hk).1)).ext h (fun k hk => hk)
set_option maxHeartbeats 8000000 in
theorem join_any (w : World) (A : Option Addr) (c : Nat) (vs : List BV) (h : ArgL w A vs) (hw : worth 20 vs ≤ 2000) :
    Calls Try.prog 20 #[.slice A vs.length c] w (fun en w' => ∃ A2 c2 E c5, en = .returned (.tuple #[.slice A2 (framesB (vs.map pay)).length c2, .slice E vs.length c5]) ∧ Bs w' A2 (framesB (vs.map pay)) ∧ (framesB (vs.map pay)).length ≤ c2 ∧ Is w' E (endsL (vs.map pay)) ∧ Ext w w') := by
  have hlen := worth_len (n := 20) vs
  have hfw : ∀ us : List BV, (framesB (us.map pay)).length ≤ worth 20 us := by
    intro us
    induction us with
    | nil => simp [framesB]
    | cons u us ih =>
      unfold worth at ih ⊢
      rw [List.map_cons, framesB_cons, List.length_append, frameB_length, List.map_cons, List.sum_cons]
      show u.2.2.length + 12 + _ ≤ _
      omega
  refine calls_of_CW Try.func20 rfl (by simp [Try.ntmps20]) ?_
  rw [Try.ntmps20]
  refine go_Frm4 (k := ?_)
  refine CW_meetB (fun e' w' => ∃ A2 c2 E c5, e' 4 = .slice A2 (framesB (vs.map pay)).length c2 ∧ e' 5 = .slice E vs.length c5 ∧ Bs w' A2 (framesB (vs.map pay)) ∧ (framesB (vs.map pay)).length ≤ c2 ∧ Is w' E (endsL (vs.map pay)) ∧ Ext w w') ?_ ?_
  · refine CW_loop (fun e' w' => ∃ (k : Nat) (A2 : Option Addr) (c2 : Nat) (E : Option Addr) (c5 : Nat), k ≤ vs.length ∧ e' 0 = .slice A vs.length c ∧ e' 4 = .slice A2 (framesB ((vs.map pay).take k)).length c2 ∧ e' 5 = .slice E k c5 ∧ e' 6 = .int .i64 k ∧
      w'.ownsRow w.heap.size 5 1 (.slice A2 (framesB ((vs.map pay).take k)).length c2) (framesB ((vs.map pay).take k)).length ((framesB ((vs.map pay).take k)).map bv) ∧ w'.ownsRow w.heap.size 3 1 (.slice E k c5) k (((endsL (vs.map pay)).take k).map iv) ∧ Ext w w') (fun e' _ => vs.length - (intOf (e' 6)).toNat) ?_ ?_
    · exact ⟨0, none, 0, none, 0, by omega, rfl, rfl, rfl, rfl, World.ownsRow_nil _ _ _ _, World.ownsRow_nil _ _ _ _, Ext.rfl' w⟩
    rintro e1 w1 ⟨k, A2, c2, E, c5, hk, q0, q4, q5, q6, hoA, hoE, hx⟩
    rw [upd_self q0, upd_self q4, upd_self q5, upd_self q6]
    refine go_Frm4 (k := ?_)
    refine CW_cond _ rfl (fun hh => ?_) (fun hh => ?_)
    · have hlt : k < vs.length := by simpa using hh
      clear hh
      obtain ⟨ad, rfl, hcA⟩ := (h.ext hx).cell hlt
      have hbA := (h.bs _ (List.getElem_mem hlt)).1.ext hx
      have hwx := worth_each (n := 20) (List.getElem_mem hlt)
      have hpl : k < (vs.map pay).length := by simpa using hlt
      have hs : framesB ((vs.map pay).take (k + 1)) = framesB ((vs.map pay).take k) ++ frameB (vs[k]).2.2 := by rw [take_succ_get _ _ hpl, framesB_snoc, List.getElem_map]
      have he : ((endsL (vs.map pay)).take (k + 1)) = (endsL (vs.map pay)).take k ++ [((framesB ((vs.map pay).take (k + 1))).length : Int)] := by
        rw [take_succ_get _ _ (by rw [endsL_length]; exact hpl), endsL_get hpl]
      have hfk : (framesB ((vs.map pay).take k)).length ≤ 2000 := by
        rw [← List.map_take]
        have := hfw (vs.take k)
        have := worth_take_le 20 vs k
        omega
      rw [hs] at he
      have hsl : (framesB ((vs.map pay).take (k + 1))).length = (framesB ((vs.map pay).take k)).length + (frameB (vs[k]).2.2).length := by rw [hs, List.length_append]
      have hfl := frameB_length (vs[k]).2.2
      generalize vs[k] = x at *
      obtain ⟨xA, xc, xl⟩ := x
      replace hcA : w1.cell? (ad.add k) = some (.slice xA xl.length xc) := hcA
      simp only at hbA hwx hs he hsl hfl
      have hse := fun c => fseal_any w1 xA c xl hbA (by omega)
      generalize frameB xl = F at *
      generalize framesB ((vs.map pay).take k) = G at *
      refine go_Frm4 (k := ?_)
      refine OW_callC Try.func11 (by kernel_rfl) rfl (hse xc) rfl ?_
      rintro en w2 ⟨A3, c3, rfl, hf3⟩
      refine ⟨_, rfl, ?_⟩
      have hx2 := hf3.ext
      refine go_Frm4 (k := ?_)
      refine OW_appendK und_bytes info_u8 rfl rfl rfl (own_ext hoA hx2) hf3.bs (by simp) (bv_one _) (by unfold maxLen; omega) (by omega) (by have := hx.size; have := hx2.size; omega) ?_
      intro w3 A4 c4 ho4 hg4 hw4
      have hoE3 := own_kept_other (own_ext hoA hx2) (own_ext hoE hx2) (by decide) hg4
      have hx03 := grown_ext (hx.trans' hx2) (own_ext hoA hx2) hg4
      refine go_Frm4 (k := ?_)
      refine OW_lit [iv ((G.length + F.length : Nat) : Int)] und_ints info_int rfl rfl (by simp [iv, Value.oneCell']) (by decide) ?_
      intro w4 g4 hb4 hg4' hx4
      refine go_Frm4 (k := ?_)
      refine OW_appendK und_ints info_int rfl rfl rfl (own_ext hoE3 hx4) (by simpa using hb4.rd) rfl (by simp [iv, Value.oneCell']) (by unfold maxLen; omega) (by omega) (by have := hx03.size; have := hx4.size; omega) ?_
      intro w5 A5 c5' ho5 hg5 hw5
      have hoA5 := own_kept_other (own_ext hoE3 hx4) (own_ext ho4 hx4) (by decide) hg5
      have hx05 := grown_ext (hx03.trans' hx4) (own_ext hoE3 hx4) hg5
      refine go_Frm4 (k := ?_)
      rw [← List.map_append, ← List.length_append] at hoA5
      refine ⟨⟨k + 1, A4, c4, A5, c5', hlt, rfl, by rw [hs, List.length_append]; rfl, rfl, rfl, by rw [hs]; exact hoA5, ?_, hx05⟩, ?_⟩
      · rw [he, List.map_append, List.length_append]
        exact ho5
      · show vs.length - ((k : Int) + 1).toNat < vs.length - (k : Int).toNat
        omega
    · have hge : k = vs.length := by simp at hh; omega
      subst hge
      rw [List.take_of_length_le (by simp)] at hoA ⊢
      rw [List.take_of_length_le (by rw [endsL_length]; simp)] at hoE
      refine go_Frm4 (k := ?_)
      exact ⟨rfl, A2, c2, E, c5, rfl, rfl, own_rd hoA, (own_cap hoA).1, own_rd hoE, hx⟩
  rintro e' w' ⟨A2, c2, E, c5, q4, q5, hb, hc, he, hx⟩
  rw [upd_self q4, upd_self q5]
  refine go_Frm4 (k := ?_)
  exact bodyE_ret2 rfl (.slice A2 _ c2) (.slice E vs.length c5) rfl rfl ⟨A2, c2, E, c5, rfl, hb, hc, he, hx⟩
theorem next_zeros : nextL (List.replicate 13 0) = none := by
  cases h : nextL (List.replicate 13 0) with
  | none => rfl
  | some q =>
    obtain ⟨h1, h2, h3⟩ := nextL_some h
    exfalso
    rw [List.length_replicate] at h2
    have h5 := frame_head q []
    rw [List.append_nil, ← h3, List.take_take, Nat.min_eq_left (by omega)] at h5
    have h6 := congrArg loadL h5
    rw [loadL_putL 4 _ (by omega)] at h6
    have h7 : q.length = 0 := by rw [← h6]; rfl
    have h8 : q = [] := List.eq_nil_of_length_eq_zero h7
    subst h8
    have h9 : frameB [] = [0, 0, 0, 0] ++ (shaK [0, 0, 0, 0]).take 8 := by rw [shaK_eq]; rfl
    rw [h9] at h3
    exact absurd h3 (by decide +kernel)
set_option maxHeartbeats 8000000 in
theorem awake5_any (w : World) : Calls Try.prog 18 #[] w (RetV w (.bool true)) := by
  have hfl : (frameB [97]).length = 13 := frameB_length [97]
  have h5 : (frameB [97]).take 5 = [0, 0, 0, 1, 97] := rfl
  have hn1 : nextL (frameB [97] ++ [9]) = some [97] := nextL_frame [97] [9] (by decide)
  have hn2 : nextL ((frameB [97]).take 12) = none := by
    have := nextL_cut (p := [97]) (y := []) (c := 12) (by decide) (by decide)
    rwa [List.append_nil] at this
  have hn3 : nextL [] = none := by simp [nextL]
  have hal : IsAll (frameB [97] ++ (frameB [97] ++ [0, 0, 0])) [[97], [97]] := by
    have := isAll_frames (l := [[97], [97]]) (by simp) (rest := [0, 0, 0]) (by simp [nextL])
    simpa [framesB] using this
  have hf2 : (framesB [[97], [97]]).length = 26 := by simp [framesB, frameB_length]
  have hse := fun (w : World) A c (hb : Bs w A [97]) => fseal_any w A c [97] hb (by decide)
  generalize frameB [97] = F at *
  refine calls_of_CW Try.func18 rfl (by simp [Try.ntmps18]) ?_
  rw [Try.ntmps18]
  refine go_Frm4 (k := ?_)
  refine OW_lit [bv 97] und_bytes info_u8 rfl rfl (by simp [bv, Value.oneCell']) (by decide) ?_
  intro w1 g1 hb1 hg1 hx1
  refine go_Frm4 (k := ?_)
  refine OW_callC Try.func11 (by kernel_rfl) rfl (hse w1 (some ⟨g1, 0, none⟩) 1 (bs_lit [97] _ hb1 rfl)) rfl ?_
  rintro en w2 ⟨A2, c2, rfl, hf2'⟩
  refine ⟨_, rfl, ?_⟩
  have hx02 := hx1.trans' hf2'.ext
  have hbF := hf2'.bs
  have hcF := hf2'.cap
  clear hse hb1 hf2'
  rw [hfl] at hcF ⊢
  refine go_Frm4 (k := ?_)
  refine OW_sliceBs und_bytes one_u8 hbF hfl.symm hcF rfl rfl ⟨_, rfl⟩ 0 5 rfl rfl (by omega) ?_
  intro A3 hb3 hl3
  rw [show (F.drop 0).take (5 - 0) = F.take 5 from rfl, h5] at hb3
  refine go_Frm4 (k := ?_)
  refine OW_lit [bv 0, bv 0, bv 0, bv 1, bv 97] und_bytes info_u8 rfl rfl (by simp [bv, Value.oneCell']) (by decide) ?_
  intro w4 g4 hb4 hg4 hx4
  refine go_Frm4 (k := ?_)
  refine OW_callV Try.func21 (by kernel_rfl) rfl (same_any w4 A3 (some ⟨g4, 0, none⟩) [0, 0, 0, 1, 97] [0, 0, 0, 1, 97] (c2 - 0) 5 (hb3.ext hx4) (bs_lit [0, 0, 0, 1, 97] _ hb4 rfl) (by show 5 ≤ c2 - 0; omega) (by decide)) rfl ?_
  intro w5 hx5
  rw [show (([0, 0, 0, 1, 97] : List UInt8) == [0, 0, 0, 1, 97]) = true from rfl]
  have hx25 := hx4.trans' hx5
  refine go_Frm4 (k := ?_)
  refine OW_lit [bv 9] und_bytes info_u8 rfl rfl (by simp [bv, Value.oneCell']) (by decide) ?_
  intro w6 g6 hb6 hg6 hx6
  refine go_Frm4 (k := ?_)
  refine OW_lit [.slice A2 13 c2, .slice (some ⟨g6, 0, none⟩) 1 1] und_bytess info_bytes rfl rfl (by simp [Value.oneCell']) (by decide) ?_
  intro w7 g7 hb7 hg7 hx7
  have hx27 := (hx25.trans' hx6).trans' hx7
  have hcat := cat_lit2 (c := 2) hb7 (hbF.ext hx27) hfl ((bs_lit [9] _ hb6 rfl).ext hx7) rfl (by rw [hfl]; decide)
  refine go_Frm4 (k := ?_)
  refine OW_callBs Try.func22 (by kernel_rfl) rfl hcat rfl ?_
  intro w8 A8 c8 hf8
  have hx28 := hx27.trans' hf8.ext
  refine go_Frm4 (k := ?_)
  refine OW_callC Try.func13 (by kernel_rfl) rfl (frameNext_any w8 A8 c8 (F ++ [9]) hf8.bs hf8.cap (by rw [List.length_append, hfl]; decide)) rfl ?_
  rintro en w9 (⟨hn, rfl, hx9⟩ | ⟨p, A9, c9, hn, rfl, hf9⟩)
  · rw [hn1] at hn; cases hn
  rw [hn1] at hn
  obtain rfl : [97] = p := Option.some.inj hn
  refine ⟨_, rfl, ?_⟩
  have hx29 := hx28.trans' hf9.ext
  refine go_Frm4 (k := ?_)
  refine OW_sliceBs und_bytes one_u8 (hbF.ext hx29) hfl.symm hcF rfl rfl ⟨_, rfl⟩ 0 12 rfl rfl (by omega) ?_
  intro A10 hb10 hl10
  rw [show (F.drop 0).take (12 - 0) = F.take 12 from rfl] at hb10 hl10
  rw [← hl10]
  refine go_Frm4 (k := ?_)
  refine OW_callC Try.func13 (by kernel_rfl) rfl (frameNext_any w9 A10 (c2 - 0) (F.take 12) hb10 (by omega) (by omega)) rfl ?_
  rintro en w11 (⟨hn', rfl, hx11⟩ | ⟨p, A11, c11, hn', rfl, hf11⟩)
  rotate_left 1
  · rw [hn2] at hn'; cases hn'
  refine ⟨_, rfl, ?_⟩
  refine go_Frm4 (k := ?_)
  refine OW_callC Try.func13 (by kernel_rfl) rfl (frameNext_any w11 none 0 [] (Bs.nil _ _) (by decide) (by decide)) rfl ?_
  rintro en w12 (⟨hn', rfl, hx12⟩ | ⟨p, A12, c12, hn', rfl, hf12⟩)
  rotate_left 1
  · rw [hn3] at hn'; cases hn'
  refine ⟨_, rfl, ?_⟩
  refine go_Frm4 (k := ?_)
  refine OW_make und_bytes info_u8 rfl rfl rfl (n := 13) rfl rfl (by decide) (by decide) ?_
  intro w13 g13 hb13 hg13 hx13
  have hz13 := bs_zeros hb13
  refine go_Frm4 (k := ?_)
  refine OW_callC Try.func13 (by kernel_rfl) rfl (frameNext_any w13 (some ⟨g13, 0, none⟩) 13 (List.replicate 13 0) hz13 (by decide) (by decide)) rfl ?_
  rintro en w14 (⟨hn', rfl, hx14⟩ | ⟨p, A14, c14, hn', rfl, hf14⟩)
  rotate_left 1
  · rw [next_zeros] at hn'; cases hn'
  refine ⟨_, rfl, ?_⟩
  have hx914 := ((hx11.trans' hx12).trans' hx13).trans' hx14
  have hx214 := hx29.trans' hx914
  refine go_Frm4 (k := ?_)
  refine OW_lit [bv 0, bv 0, bv 0] und_bytes info_u8 rfl rfl (by simp [bv, Value.oneCell']) (by decide) ?_
  intro w15 g15 hb15 hg15 hx15
  refine go_Frm4 (k := ?_)
  refine OW_lit [.slice A2 13 c2, .slice A2 13 c2, .slice (some ⟨g15, 0, none⟩) 3 3] und_bytess info_bytes rfl rfl (by simp [Value.oneCell']) (by decide) ?_
  intro w16 g16 hb16 hg16 hx16
  have hx216 := (hx214.trans' hx15).trans' hx16
  have hcat2 := cat_lit3 (c := 3) hb16 (hbF.ext hx216) hfl (hbF.ext hx216) hfl ((bs_lit [0, 0, 0] _ hb15 rfl).ext hx16) rfl (by rw [hfl]; decide)
  refine go_Frm4 (k := ?_)
  refine OW_callBs Try.func22 (by kernel_rfl) rfl hcat2 rfl ?_
  intro w17 A17 c17 hf17
  have hl17 : (F ++ (F ++ [0, 0, 0])).length = 29 := by rw [List.length_append, List.length_append, hfl]; rfl
  generalize F ++ (F ++ [0, 0, 0]) = G at *
  refine go_Frm4 (k := ?_)
  refine OW_callC Try.func16 (by kernel_rfl) rfl (frameAll_any w17 A17 c17 G hf17.bs hf17.cap (by omega)) rfl ?_
  rintro en w18 ⟨A18, c18, vs, rfl, hia, hR, hx18⟩
  refine ⟨_, rfl, ?_⟩
  have hvs := isAll_uniq hia hal
  have hvl : vs.length = 2 := by have := congrArg List.length hvs; simpa using this
  rw [hvs, hvl, hf2]
  have hx918 := ((hx914.trans' hx15).trans' hx16).trans' (hf17.ext.trans' hx18)
  refine go_Frm4 (k := ?_)
  refine OW_lit [bv 97] und_bytes info_u8 rfl rfl (by simp [bv, Value.oneCell']) (by decide) ?_
  intro w19 g19 hb19 hg19 hx19
  refine go_Frm4 (k := ?_)
  refine OW_callV Try.func21 (by kernel_rfl) rfl (same_any w19 A9 (some ⟨g19, 0, none⟩) [97] [97] c9 1 (hf9.bs.ext (hx918.trans' hx19)) (bs_lit [97] _ hb19 rfl) hf9.cap (by decide)) rfl ?_
  intro w20 hx20
  rw [show (([97] : List UInt8) == [97]) = true from rfl]
  refine go_Frm4 (k := ?_)
  exact bodyE_ret1 rfl (.bool true) rfl ⟨rfl, ((hx02.trans' (hx29.trans' hx918)).trans' hx19).trans' hx20⟩
end Go.Proofs.Ytdphahphbaebkaa
