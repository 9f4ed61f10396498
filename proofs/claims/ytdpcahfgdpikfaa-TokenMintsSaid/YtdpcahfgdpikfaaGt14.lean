/- Several texts in one, as they stand in wip/src. -/
import Derived.Test.YtdpcahfgdpikfaaGt3
import Derived.Test.YtdpcahfgdpikfaaGt4
import Derived.Test.YtdpcahfgdpikfaaGt11
import Derived.Test.YtdpcahfgdpikfaaGt13
/- Links: their cells, what they are told as, whether two are the same. -/
namespace Go.Proofs.Ytdpcahfgdpikfaa
open Go Go.RowKit Go.ChangeShapes Go.WideShapes
set_option linter.unusedVariables false
set_option maxRecDepth 4000
/-- A link. -/
structure LK where
  n : Int
  stamp : Int
  op : UInt8
  ten : Int
  a : Int
  b : Int
  c : Int
  ahead : List UInt8
  self : List UInt8
def lcells (l : LK) : List Value := [.int .i64 l.n, .int .i64 l.stamp, bv l.op, .int .i64 l.ten, .int .i64 l.a, .int .i64 l.b, .int .i64 l.c] ++ (l.ahead.map bv ++ l.self.map bv)
structure LOk (l : LK) : Prop where
  ahead : l.ahead.length = 32
  self : l.self.length = 32
  i : I64 l.n ∧ I64 l.stamp ∧ I64 l.ten ∧ I64 l.a ∧ I64 l.b ∧ I64 l.c
theorem lcells_length {l : LK} (h : LOk l) : (lcells l).length = 71 := by simp [lcells, h.ahead, h.self]
def kLink : KD Try.prog 76 LK where
  n := 71
  hn := by kernel_rfl
  R := fun w cs l => cs = lcells l ∧ LOk l
  ext := fun hx h => h
  opn := fun {H enc w fuel cs x} h hw => by
    obtain ⟨hl, hp⟩ := kd_parts Try.underlying76 h hw
    have hl : cs.length = 71 := by rw [hl]; kernel_rfl
    obtain ⟨a0, h0, r0⟩ := hp 0 _ rfl kI
    obtain ⟨a1, h1, r1⟩ := hp 1 _ rfl kI
    obtain ⟨a2, h2⟩ := hp 2 _ rfl kB8
    obtain ⟨a3, h3, r3⟩ := hp 3 _ rfl kI
    obtain ⟨a4, h4, r4⟩ := hp 4 _ rfl kI
    obtain ⟨a5, h5, r5⟩ := hp 5 _ rfl kI
    obtain ⟨a6, h6, r6⟩ := hp 6 _ rfl kI
    obtain ⟨a7, h7, r7⟩ := hp 7 _ rfl kTag
    obtain ⟨a8, h8, r8⟩ := hp 8 _ rfl kTag
    have e0 : (cs.drop 0).take 1 = [.int .i64 a0] := h0
    have e1 : (cs.drop (0 + 1)).take 1 = [.int .i64 a1] := h1
    have e2 : (cs.drop (0 + 1 + 1)).take 1 = [bv a2] := h2
    have e3 : (cs.drop (0 + 1 + 1 + 1)).take 1 = [.int .i64 a3] := h3
    have e4 : (cs.drop (0 + 1 + 1 + 1 + 1)).take 1 = [.int .i64 a4] := h4
    have e5 : (cs.drop (0 + 1 + 1 + 1 + 1 + 1)).take 1 = [.int .i64 a5] := h5
    have e6 : (cs.drop (0 + 1 + 1 + 1 + 1 + 1 + 1)).take 1 = [.int .i64 a6] := h6
    have e7 : (cs.drop (0 + 1 + 1 + 1 + 1 + 1 + 1 + 1)).take 32 = a7.map bv := h7
    have e8 : (cs.drop (0 + 1 + 1 + 1 + 1 + 1 + 1 + 1 + 32)).take 32 = a8.map bv := h8
    have eN : cs.drop (0 + 1 + 1 + 1 + 1 + 1 + 1 + 1 + 32 + 32) = [] := List.drop_of_length_le (by omega)
    have := cut_cons cs 0 1
    rw [cut_cons cs (0 + 1) 1, cut_cons cs (0 + 1 + 1) 1, cut_cons cs (0 + 1 + 1 + 1) 1, cut_cons cs (0 + 1 + 1 + 1 + 1) 1, cut_cons cs (0 + 1 + 1 + 1 + 1 + 1) 1, cut_cons cs (0 + 1 + 1 + 1 + 1 + 1 + 1) 1, cut_cons cs (0 + 1 + 1 + 1 + 1 + 1 + 1 + 1) 32, cut_cons cs (0 + 1 + 1 + 1 + 1 + 1 + 1 + 1 + 32) 32, e0, e1, e2, e3, e4, e5, e6, e7, e8, eN, List.drop_zero] at this
    rw [this]
    refine ⟨⟨a0, a1, a2, a3, a4, a5, a6, a7, a8⟩, ?_, r7, r8, r0, r1, r3, r4, r5, r6⟩
    simp [lcells]
theorem fld_L0 : Fld Try.prog 76 0 := ⟨fun w g => by kernel_rfl⟩
theorem fld_L1 : Fld Try.prog 76 1 := ⟨fun w g => by kernel_rfl⟩
theorem fld_L2 : Fld Try.prog 76 2 := ⟨fun w g => by kernel_rfl⟩
theorem fld_L3 : Fld Try.prog 76 3 := ⟨fun w g => by kernel_rfl⟩
theorem fld_L4 : Fld Try.prog 76 4 := ⟨fun w g => by kernel_rfl⟩
theorem fld_L5 : Fld Try.prog 76 5 := ⟨fun w g => by kernel_rfl⟩
theorem fld_L6 : Fld Try.prog 76 6 := ⟨fun w g => by kernel_rfl⟩
theorem fld_L7 : Fld Try.prog 76 7 := ⟨fun w g => by kernel_rfl⟩
theorem fldo_L8 : FldO Try.prog 76 8 39 := ⟨fun w a => by kernel_rfl⟩
theorem agg_Link : AggT Try.prog 76 71 (lcells ⟨0, 0, 0, 0, 0, 0, 0, tzS, tzS⟩) := ⟨⟨_, Try.underlying76, rfl⟩, by kernel_rfl, fun w => by kernel_rfl⟩
theorem lcells_one (l : LK) : ∀ v ∈ lcells l, v.oneCell' = true := by
  intro v hv
  simp only [lcells, List.mem_append, List.mem_cons, List.not_mem_nil, or_false] at hv
  rcases hv with (rfl | rfl | rfl | rfl | rfl | rfl | rfl) | hv | hv
  · rfl
  · rfl
  · rfl
  · rfl
  · rfl
  · rfl
  · rfl
  · exact bv_one l.ahead v hv
  · exact bv_one l.self v hv
theorem ahead_in {w : World} {g : Nat} {T : TypeId} {l : LK} (h : LOk l) (hb : Blk w g T (lcells l).toArray) : At w ⟨g, 7, none⟩ (l.ahead.map bv) := fun j u hu => by
  have hj : j < 32 := by have := (List.getElem?_eq_some_iff.1 hu).1; simpa [h.ahead] using this
  rw [addr_add_off, hb.cell]
  simp only [lcells, List.getElem?_toArray]
  rw [List.getElem?_append_right (by simp), List.getElem?_append_left (by simp [h.ahead]; omega)]
  simpa using hu
theorem self_in {w : World} {g : Nat} {T : TypeId} {l : LK} (h : LOk l) (hb : Blk w g T (lcells l).toArray) : At w ⟨g, 39, none⟩ (l.self.map bv) := fun j u hu => by
  rw [addr_add_off, hb.cell]
  simp only [lcells, List.getElem?_toArray]
  rw [List.getElem?_append_right (by simp; omega), List.getElem?_append_right (by simp [h.ahead]; omega)]
  simp only [List.length_cons, List.length_nil, List.length_map, h.ahead]
  rw [show 39 + j - (0 + 1 + 1 + 1 + 1 + 1 + 1 + 1) - 32 = j by omega]
  exact hu
theorem fldo_L0 : FldO Try.prog 76 0 0 := ⟨fun w a => by kernel_rfl⟩
theorem fldo_L1 : FldO Try.prog 76 1 1 := ⟨fun w a => by kernel_rfl⟩
theorem fldo_L2 : FldO Try.prog 76 2 2 := ⟨fun w a => by kernel_rfl⟩
theorem fldo_L3 : FldO Try.prog 76 3 3 := ⟨fun w a => by kernel_rfl⟩
theorem fldo_L4 : FldO Try.prog 76 4 4 := ⟨fun w a => by kernel_rfl⟩
theorem fldo_L5 : FldO Try.prog 76 5 5 := ⟨fun w a => by kernel_rfl⟩
theorem fldo_L6 : FldO Try.prog 76 6 6 := ⟨fun w a => by kernel_rfl⟩
theorem fldo_L7 : FldO Try.prog 76 7 7 := ⟨fun w a => by kernel_rfl⟩
def litI (n : Int) : Lit := .int .i64 n
/-- What a link is compared by. -/
def litK (l : LK) : List Lit := [litI l.n, litI l.stamp, litB l.op, litI l.ten, litI l.a, litI l.b, litI l.c] ++ (l.ahead.map litB ++ l.self.map litB)
theorem litI_inj {a b : Int} (h : litI a = litI b) : a = b := by unfold litI at h; injection h
theorem litK_inj {l k : LK} (hl : LOk l) (hk : LOk k) (h : litK l = litK k) : l = k := by
  unfold litK at h
  simp only [List.cons_append, List.nil_append, List.cons.injEq] at h
  obtain ⟨h1, h2, h3, h4, h5, h6, h7, h8⟩ := h
  have h9 := List.append_inj h8 (by simp [hl.ahead, hk.ahead])
  obtain ⟨l1, l2, l3, l4, l5, l6, l7, l8, l9⟩ := l
  obtain ⟨k1, k2, k3, k4, k5, k6, k7, k8, k9⟩ := k
  simp only at h1 h2 h3 h4 h5 h6 h7 h9
  rw [litI_inj h1, litI_inj h2, litB_inj h3, litI_inj h4, litI_inj h5, litI_inj h6, litI_inj h7, litsB_inj h9.1, litsB_inj h9.2]
theorem lk_eqr_Tag : EqR Try.prog 29 32 := ⟨⟨⟨2, by decide, by kernel_rfl⟩, by kernel_rfl⟩, ⟨_, s_und_Tag, und_u8, by kernel_rfl⟩, by kernel_rfl⟩
theorem lk_eqx : EqX Try.prog 76 := ⟨⟨3, by decide, by kernel_rfl⟩, by kernel_rfl⟩
theorem lk_cells : Program.cellsOf Try.prog 76 = 71 := by kernel_rfl
theorem lk_drop7 {l : LK} (h : LOk l) : ((lcells l).drop 7).take 32 = l.ahead.map bv := by
  unfold lcells
  rw [List.drop_append_of_le_length (by simp), List.drop_of_length_le (by simp), List.nil_append, List.take_append_of_le_length (by simp [h.ahead]), List.take_of_length_le (by simp [h.ahead])]
theorem lk_drop39 {l : LK} (h : LOk l) : ((lcells l).drop 39).take 32 = l.self.map bv := by
  unfold lcells
  rw [List.drop_append, List.drop_of_length_le (by simp), List.nil_append, List.drop_append, List.drop_of_length_le (by simp [h.ahead]), List.nil_append]
  simp only [List.length_cons, List.length_nil, List.length_map, h.ahead]
  exact List.take_of_length_le (by simp [h.self])
theorem lk_lits {l : LK} (h : LOk l) : Try.prog.keyLits 4 76 (lcells l) = some (litK l) := by
  obtain ⟨i1, i2, i3, i4, i5, i6⟩ := h.i
  have := keyLits_fields (D := 3) (cs := lcells l) Try.underlying76 (by rw [lk_cells]; exact lcells_length h) (by kernel_rfl) [[litI l.n], [litI l.stamp], [litB l.op], [litI l.ten], [litI l.a], [litI l.b], [litI l.c], l.ahead.map litB, l.self.map litB]
    (mapM_one (lit_int und_int (by kernel_rfl) rfl i1) (mapM_one (lit_int und_int (by kernel_rfl) rfl i2) (mapM_one (lit_u8 und_u8 (by kernel_rfl) rfl) (mapM_one (lit_int und_int (by kernel_rfl) rfl i3) (mapM_one (lit_int und_int (by kernel_rfl) rfl i4) (mapM_one (lit_int und_int (by kernel_rfl) rfl i5) (mapM_one (lit_int und_int (by kernel_rfl) rfl i6) (mapM_one (lit_row lk_eqr_Tag (lk_drop7 h) h.ahead) (mapM_one (lit_row lk_eqr_Tag (lk_drop39 h) h.self) mapM_none)))))))))
  rw [this]
  simp [litK]
theorem lk_formed {l : LK} (h : LOk l) : (Value.agg (lcells l).toArray).formed Try.prog 76 = true := by
  simp [Value.formed, Try.underlying76, lk_cells, lcells_length h]
section
variable {ops : Array Oper} {Q : Exit → (Nat → Value) → World → Prop} {rest : List Oper} {e : Nat → Value} {w : World} {d : Tmp} {ty : TypeId} {pos : String} {aft : Array Edge}
theorem OW_neqK {x y : Operand} {t' : TypeId} {a b : LK} (hx : ev e x = .agg (lcells a).toArray) (hy : ev e y = .agg (lcells b).toArray) (ha : LOk a) (hb : LOk b) (r : Bool) (hr : r = true ↔ a ≠ b) (h : OW Try.prog ops Q rest (upd e d (.bool r)) w) :
    OW Try.prog ops Q (⟨some d, .binOp .neq 76 x y t', ty, pos, aft, none⟩ :: rest) e w := by
  refine OW_neqX lk_eqx hx hy (lk_formed ha) (lk_formed hb) (lk_lits ha) (lk_lits hb) (fun q hq => ?_)
  have : (!q) = r := by
    rw [Bool.eq_iff_iff, hr, Bool.not_eq_true', ← Bool.not_eq_true, hq]
    exact ⟨fun hh e => hh (by rw [e]), fun hh e => hh (litK_inj ha hb e)⟩
  rw [this]
  exact h
theorem OW_eqlK {x y : Operand} {t' : TypeId} {a b : LK} (hx : ev e x = .agg (lcells a).toArray) (hy : ev e y = .agg (lcells b).toArray) (ha : LOk a) (hb : LOk b) (r : Bool) (hr : r = true ↔ a = b) (h : OW Try.prog ops Q rest (upd e d (.bool r)) w) :
    OW Try.prog ops Q (⟨some d, .binOp .eql 76 x y t', ty, pos, aft, none⟩ :: rest) e w := by
  refine OW_eqlX lk_eqx hx hy (lk_formed ha) (lk_formed hb) (lk_lits ha) (lk_lits hb) (fun q hq => ?_)
  have : q = r := by
    rw [Bool.eq_iff_iff, hr, hq]
    exact ⟨fun e => litK_inj ha hb e, fun e => by rw [e]⟩
  rw [this]
  exact h
end
end Go.Proofs.Ytdpcahfgdpikfaa

/- Chains of links, plainly: a link's hash, a link more, the first wrong one. No program in sight but a link's cells. -/
namespace Go.Proofs.Ytdpcahfgdpikfaa
open Go Go.RowKit Go.ChangeShapes Go.WideShapes
set_option linter.unusedVariables false
/-- What a link's hash is taken of. -/
def linkB (x : LK) : List UInt8 := numsB [x.n, x.stamp, x.op.toNat, x.ten, x.a, x.b, x.c] ++ x.ahead
def linkH (x : LK) : List UInt8 := shaL (linkB x)
theorem linkB_len {x : LK} (h : x.ahead.length = 32) : (linkB x).length = 88 := by
  unfold linkB
  rw [List.length_append, numsB_length, h]; rfl
/-- The head of links. -/
def headL (l : List LK) : List UInt8 := match l.getLast? with | none => tzS | some x => x.self
/-- The link that comes next. -/
def nextL (l : List LK) (stamp : Int) (op : UInt8) (ten a b c : Int) : LK :=
  let y : LK := ⟨(l.length : Int) + 1, stamp, op, ten, a, b, c, headL l, tzS⟩
  { y with self := linkH y }
theorem nextL_self (l : List LK) (stamp : Int) (op : UInt8) (ten a b c : Int) : (nextL l stamp op ten a b c).self = linkH (nextL l stamp op ten a b c) := rfl
theorem headL_snoc (l : List LK) (x : LK) : headL (l ++ [x]) = x.self := by simp [headL]
theorem headL_len {l : List LK} (h : ∀ x ∈ l, LOk x) : (headL l).length = 32 := by
  unfold headL
  cases hl : l.getLast? with
  | none => rfl
  | some x => exact (h x (List.mem_of_getLast? hl)).self
theorem nextL_ok {l : List LK} (h : ∀ x ∈ l, LOk x) (hl : l.length ≤ 1000000) {stamp ten a b c : Int} {op : UInt8} (i : I64 stamp ∧ I64 ten ∧ I64 a ∧ I64 b ∧ I64 c) : LOk (nextL l stamp op ten a b c) :=
  ⟨headL_len h, shaL_length _, by unfold I64 nextL; simp only; omega, i.1, i.2.1, i.2.2.1, i.2.2.2.1, i.2.2.2.2⟩
/-- The first link that is not as it must be: those behind `k` others, the last of which has the Self `p`. -/
def okL (k : Nat) (p : List UInt8) (x : LK) : Prop := x.n = (k : Int) + 1 ∧ x.ahead = p ∧ x.self = linkH x
instance (k : Nat) (p : List UInt8) (x : LK) : Decidable (okL k p x) := by unfold okL; infer_instance
def chkL : Nat → List UInt8 → List LK → Int
  | _, _, [] => 0
  | k, p, x :: l => if okL k p x then chkL (k + 1) x.self l else (k : Int) + 1
def lastS (p : List UInt8) : List LK → List UInt8
  | [] => p
  | x :: l => lastS x.self l
theorem lastS_snoc (p : List UInt8) (l : List LK) (x : LK) : lastS p (l ++ [x]) = x.self := by
  induction l generalizing p with
  | nil => rfl
  | cons y l ih => exact ih _
theorem lastS_head (l : List LK) : lastS tzS l = headL l := by
  rcases List.eq_nil_or_concat l with rfl | ⟨l, x, rfl⟩
  · rfl
  · rw [List.concat_eq_append, lastS_snoc, headL_snoc]
theorem chkL_app (k : Nat) (p : List UInt8) (l m : List LK) (h : chkL k p l = 0) : chkL k p (l ++ m) = chkL (k + l.length) (lastS p l) m := by
  induction l generalizing k p with
  | nil => simp [lastS]
  | cons x l ih =>
    rw [chkL] at h
    rw [List.cons_append, chkL]
    by_cases hx : okL k p x
    · rw [if_pos hx] at h ⊢
      rw [ih _ _ h, List.length_cons, lastS, show k + 1 + l.length = k + (l.length + 1) by omega]
    · rw [if_neg hx] at h; omega
theorem chkL_take (k : Nat) (p : List UInt8) (l : List LK) (h : chkL k p l = 0) (i : Nat) : chkL k p (l.take i) = 0 := by
  induction l generalizing k p i with
  | nil => rw [List.take_nil]; rfl
  | cons x l ih =>
    cases i with
    | zero => rfl
    | succ i =>
      rw [chkL] at h
      rw [List.take_succ_cons, chkL]
      by_cases hx : okL k p x
      · rw [if_pos hx] at h ⊢; exact ih _ _ h i
      · rw [if_neg hx] at h; omega
theorem chkL_next (l : List LK) (h : chkL 0 tzS l = 0) (stamp : Int) (op : UInt8) (ten a b c : Int) : chkL 0 tzS (l ++ [nextL l stamp op ten a b c]) = 0 := by
  rw [chkL_app _ _ _ _ h, lastS_head, chkL, if_pos ⟨by simp [nextL], rfl, nextL_self ..⟩]
  rfl
/-- What an admin did. -/
structure AC where
  stamp : Int
  op : UInt8
  ten : Int
  a : Int
  b : Int
  c : Int
def stepL (l : List LK) (x : AC) : List LK := l ++ [nextL l x.stamp x.op x.ten x.a x.b x.c]
def chainL (l : List AC) : List LK := l.foldl stepL []
theorem chainL_snoc (l : List AC) (x : AC) : chainL (l ++ [x]) = stepL (chainL l) x := by simp [chainL]
theorem chainL_len (l : List AC) : (chainL l).length = l.length := by
  unfold chainL
  suffices h : ∀ m : List LK, (l.foldl stepL m).length = m.length + l.length by simpa using h []
  intro m
  induction l generalizing m with
  | nil => rfl
  | cons x l ih => rw [List.foldl_cons, ih]; simp only [stepL, List.length_append, List.length_cons, List.length_nil]; omega
theorem chainL_take (l : List AC) {i : Nat} (hi : i ≤ l.length) : (chainL l).take i = chainL (l.take i) := by
  have h : chainL l = (l.drop i).foldl stepL (chainL (l.take i)) := by
    unfold chainL
    rw [← List.foldl_append, List.take_append_drop]
  have hp : ∀ (m : List AC) (c : List LK), c <+: m.foldl stepL c := by
    intro m
    induction m with
    | nil => intro c; exact List.prefix_refl _
    | cons x m ih => intro c; exact (List.prefix_append c _).trans (ih _)
  obtain ⟨t, ht⟩ := hp (l.drop i) (chainL (l.take i))
  rw [← h] at ht
  rw [← ht, List.take_append_of_le_length (by rw [chainL_len, List.length_take]; omega), List.take_of_length_le (by rw [chainL_len, List.length_take]; omega)]
theorem chkL_chain (l : List AC) : chkL 0 tzS (chainL l) = 0 := by
  unfold chainL
  suffices h : ∀ m : List LK, chkL 0 tzS m = 0 → chkL 0 tzS (l.foldl stepL m) = 0 from h [] rfl
  induction l with
  | nil => intro m h; exact h
  | cons x l ih => intro m h; rw [List.foldl_cons]; exact ih _ (chkL_next m h ..)
theorem chainL_get (l : List AC) {i : Nat} (hi : i < l.length) : (chainL l)[i]'(by rw [chainL_len]; exact hi) = nextL (chainL (l.take i)) l[i].stamp l[i].op l[i].ten l[i].a l[i].b l[i].c := by
  have h : (chainL l).take (i + 1) = stepL (chainL (l.take i)) l[i] := by
    rw [chainL_take l (by omega), List.take_succ_eq_append_getElem hi, chainL_snoc]
  have h2 : ((chainL l).take (i + 1))[i]? = some ((chainL l)[i]'(by rw [chainL_len]; exact hi)) := by
    rw [List.getElem?_take_of_lt (by omega)]
    exact List.getElem?_eq_getElem _
  rw [h, stepL, List.getElem?_append_right (by rw [chainL_len, List.length_take]; omega), chainL_len, List.length_take, show i - min i l.length = 0 by omega] at h2
  simpa using h2.symm
theorem chainL_ok {l : List AC} (hl : l.length ≤ 1000) (h : ∀ x ∈ l, I64 x.stamp ∧ I64 x.ten ∧ I64 x.a ∧ I64 x.b ∧ I64 x.c) : ∀ x ∈ chainL l, LOk x := by
  unfold chainL
  suffices hh : ∀ m : List LK, m.length + l.length ≤ 1000 → (∀ x ∈ m, LOk x) → ∀ x ∈ l.foldl stepL m, LOk x from hh [] (by simpa using hl) (fun x hx => by cases hx)
  clear hl
  induction l with
  | nil => intro m _ hm; exact hm
  | cons x l ih =>
    intro m hml hm
    rw [List.foldl_cons]
    refine ih (fun y hy => h y (List.mem_cons_of_mem _ hy)) _ ?_ ?_
    · rw [stepL, List.length_append, List.length_singleton]; rw [List.length_cons] at hml; omega
    · intro y hy
      rw [stepL] at hy
      rcases List.mem_append.1 hy with hy | hy
      · exact hm y hy
      · rw [List.mem_singleton] at hy
        subst hy
        exact nextL_ok hm (by omega) (h x (List.mem_cons_self ..))
end Go.Proofs.Ytdpcahfgdpikfaa

/- Walks: numbers on the wire, of the audit, of tokens; the reference's. -/
namespace Go.Proofs.Ytdpcahfgdpikfaa
open Go Go.RowKit
set_option linter.unusedVariables false
set_option maxRecDepth 4000
theorem go_Nums {A B : Prop} (h : Held B → A := by
  intro hEnd
  repeat (first | refine OW_moveV (.int _ _) rfl ?_ | refine OW_moveV (.slice _ _ _) rfl ?_ | refine OW_moveV (.bool _) rfl ?_ | refine OW_moveV (.pointer _) rfl ?_ | refine OW_moveV (.string _) rfl ?_ | refine OW_moveV (.agg _) rfl ?_ | refine OW_moveV (.tuple _) rfl ?_ | refine OW_nil ?_ | refine thenE_normal ?_ | refine CW_seq ?_ | refine CW_region (by kernel_rfl) ?_ | refine OW_assignV (.int _ _) rfl ?_ | refine OW_assignV (.slice _ _ _) rfl ?_ | refine OW_assignV (.bool _) rfl ?_ | refine OW_assignV (.pointer _) rfl ?_ | refine OW_assignV (.string _) rfl ?_ | refine OW_assignV (.agg _) rfl ?_ | refine OW_assignV (.tuple _) rfl ?_ | refine OW_addI rfl rfl (by omega) ?_ | refine OW_subI rfl rfl (by omega) ?_ | refine OW_mulI rfl rfl (by omega) ?_ | refine OW_lss rfl rfl ?_ | refine OW_extract rfl rfl ?_ | refine OW_gtr rfl rfl ?_ | refine OW_leq rfl rfl ?_ | refine OW_geq rfl rfl ?_ | refine OW_eql rfl rfl ?_ | refine OW_neq rfl rfl ?_ | refine OW_not rfl ?_ | refine OW_pickT rfl _ rfl ?_ | refine OW_pickF rfl (.bool _) rfl ?_ | refine OW_pickB rfl rfl rfl ?_ | refine OW_move ?_ | refine OW_assign ?_ | refine OW_pass rfl ?_ | refine OW_take rfl ?_ | refine OW_lenS (by first | with_reducible exact und_bytes | with_reducible exact und_bytess) rfl ?_ | refine OW_convInt (by first | with_reducible exact und_u8 | with_reducible exact und_u64 | with_reducible exact und_int | with_reducible exact und_u32) (by first | with_reducible exact und_u8 | with_reducible exact und_u64 | with_reducible exact und_int | with_reducible exact und_u32) rfl ?_ | refine OW_add rfl rfl ?_ | refine OW_sub rfl rfl ?_ | refine OW_mul rfl rfl ?_ | refine OW_min2 rfl rfl ?_ | refine OW_max2 rfl rfl ?_ | refine OW_neg rfl ?_ | refine CW_block ?_ | refine CW_condT rfl ?_ | refine CW_condF rfl ?_ | refine CW_exit ?_ | refine CW_ret ?_ | refine CW_skip ?_ | refine LW_seq ?_ | refine LW_regC ?_ | refine LW_condC ?_ | refine LW_regF ?_ | refine LW_condF ?_ | refine FW_seq ?_ | refine FW_region (by kernel_rfl) ?_ | refine FW_block ?_ | refine FW_condT rfl ?_ | refine FW_condF rfl ?_ | refine FW_exit ?_ | refine FW_ret ?_ | refine FW_skip ?_ | refine LW_ret ?_ | refine LW_skip ?_ | refine thenE_exit ?_ | refine thenE_ret ?_ | refine inBlockE_normal ?_ | refine inBlockE_same ?_ | refine inBlockE_ret ?_ | refine inBlockE_ne (by rfl) ?_ | refine OW_eqlB (by with_reducible exact und_bool) rfl rfl ?_ | refine OW_neqB (by with_reducible exact und_bool) rfl rfl ?_ | refine OW_idxS (by with_reducible exact und_bytes) one_u8 rfl rfl _ rfl (by omega) ?_ | refine OW_idxS (by with_reducible exact und_bytess) one_bytes rfl rfl _ rfl (by omega) ?_ | refine OW_load1 (by first | with_reducible exact one_u8 | with_reducible exact one_bytes) rfl _ (by assumption) ?_ | refine OW_lenS und_ints rfl ?_ | refine OW_idxS und_ints s_int rfl rfl _ rfl (by omega) ?_ | refine OW_load1 s_int rfl _ (by assumption) ?_)
  exact hEnd.out) (k : B) : A := h ⟨k⟩
section
variable {ops : Array Oper} {Q : Exit → (Nat → Value) → World → Prop} {rest : List Oper} {e : Nat → Value} {w : World} {d : Tmp} {ty : TypeId} {pos : String} {aft : Array Edge}
/-- Bytes more onto bytes of the call's own; what else stands, of another type, stays. -/
theorem OW_apU {x y : Operand} {base : Nat} {A A' : Option Addr} {c c' : Nat} {l l' : List UInt8} (hx : ev e x = .slice A l.length c) (hy : ev e y = .slice A' l'.length c') (ho : w.ownsRow base 5 1 (.slice A l.length c) l.length (l.map bv)) (hb : Bs w A' l') (hl : l.length + l'.length ≤ 1000000) (hbase : base ≤ w.heap.size)
    (h : ∀ w' A2 c2, w'.ownsRow base 5 1 (.slice A2 (l ++ l').length c2) (l ++ l').length ((l ++ l').map bv) → (∀ g T cs, T ≠ 5 → Blk w g T cs → Blk w' g T cs) → Below base w w' → OW Try.prog ops Q rest (upd e d (.slice A2 (l ++ l').length c2)) w') :
    OW Try.prog ops Q (⟨some d, .call { callee := .builtin .append, args := #[x, y], argTypes := #[22, 22] }, ty, pos, aft, none⟩ :: rest) e w := by
  refine OW_appendK und_bytes info_u8 rfl hx hy ho hb (by simp) (bv_one l') (by unfold maxLen; omega) (by omega) hbase ?_
  intro w' A2 c2 ho2 hg hw
  rw [← List.map_append, ← List.length_append] at ho2
  rw [← List.length_append]
  refine h w' A2 c2 ho2 (fun g T cs hT hB => hB.keeps (S := fun k => ∃ ad, A = some ad ∧ ad.block = k) (Keeps.of_grown hg (fun b hb => by
    cases A with
    | none => cases hb
    | some ad => cases hb; exact ⟨ad, rfl, rfl⟩)) (fun ⟨ad, ha, hb⟩ => own_ne_blk ho hB (fun h => hT h.symm) ad ha hb)) ?_
  exact (Keeps.of_grown (S := fun k => base ≤ k) hg (fun b hb => by
    cases A with
    | none => cases hb
    | some ad => cases hb; exact (own_block ho ad rfl).1)).below (fun k hk => hk) hbase
end
set_option maxHeartbeats 8000000 in
theorem audNums_any (w : World) (L : Option Addr) (cL : Nat) (l : List Int) (hL : Is w L l) (hll : l.length ≤ 1000) : Calls Try.prog 94 #[.slice L l.length cL] w (RetBs 5 w (numsB l)) := by
  refine calls_of_CW Try.func94 rfl (by simp [Try.ntmps94]) ?_
  rw [Try.ntmps94]
  refine go_Nums (k := ?_)
  refine CW_meetB (fun e' w' => ∃ B cB, e' 3 = .slice B (numsB l).length cB ∧ w'.ownsRow w.heap.size 5 1 (.slice B (numsB l).length cB) (numsB l).length ((numsB l).map bv) ∧ Ext w w') ?_ ?_
  · refine CW_loop (fun e' w' => ∃ (k : Nat) (B : Option Addr) (cB : Nat), k ≤ l.length ∧ e' 3 = .slice B (numsB (l.take k)).length cB ∧ e' 6 = .slice L l.length cL ∧ e' 7 = .int .i64 l.length ∧ e' 8 = .int .i64 k ∧ w'.ownsRow w.heap.size 5 1 (.slice B (numsB (l.take k)).length cB) (numsB (l.take k)).length ((numsB (l.take k)).map bv) ∧ Ext w w') (fun e' _ => l.length - (intOf (e' 8)).toNat) ?_ ?_
    · exact ⟨0, none, 0, by omega, rfl, rfl, rfl, rfl, World.ownsRow_nil _ _ _ _, Ext.rfl' w⟩
    rintro e' w' ⟨k, B, cB, hk, q3, q6, q7, q8, hB, hx⟩
    rw [upd_self q3, upd_self q6, upd_self q7, upd_self q8]
    refine go_Nums (k := ?_)
    refine CW_cond _ rfl (fun h => ?_) (fun h => ?_)
    · have hlt : k < l.length := by have := of_decide_eq_true h; omega
      clear h
      obtain ⟨ad, rfl, hcell⟩ := (hL.ext hx).at_ hlt
      have hz : numsB (l.take k) ++ putL (u64N l[k]) 8 = numsB (l.take (k + 1)) := by rw [List.take_succ_eq_append_getElem hlt, numsB_snoc]
      have hzl : (numsB (l.take k)).length ≤ 8000 := by rw [numsB_length, List.length_take]; omega
      generalize numsB (l.take k) = z at *
      generalize l[k] = n at *
      refine go_Nums (k := ?_)
      rw [wrap_u64I]
      refine OW_callBs Try.func65 (by kernel_rfl) rfl (put64_any w' (u64N n) (u64N_lt _)) rfl ?_
      intro w5 A5 c5 hf5
      have hp8 := putL_length (u64N n) 8
      refine go_Nums (k := ?_)
      refine OW_apU rfl rfl (own_ext hB hf5.ext) hf5.bs (by omega) (hx.trans' hf5.ext).size ?_
      intro w6 A6 c6 ho6 hT6 hbel6
      rw [hz] at ho6 ⊢
      refine go_Nums (k := ?_)
      refine ⟨⟨k + 1, A6, c6, hlt, rfl, rfl, rfl, rfl, ho6, (hx.trans' hf5.ext).trans hbel6⟩, ?_⟩
      show l.length - ((k : Int) + 1).toNat < l.length - (k : Int).toNat
      omega
    · have hge : k = l.length := by have := of_decide_eq_false h; omega
      subst hge
      rw [List.take_length] at hB ⊢
      refine go_Nums (k := ?_)
      exact ⟨rfl, B, cB, rfl, hB, hx⟩
  rintro e' w5 ⟨B, cB, q3, hB, hx⟩
  rw [upd_self q3]
  refine go_Nums (k := ?_)
  exact bodyE_ret1 rfl (.slice B _ cB) rfl ⟨B, cB, rfl, hB, hx⟩
set_option maxHeartbeats 8000000 in
theorem tokNums_any (w : World) (L : Option Addr) (cL : Nat) (l : List Int) (hL : Is w L l) (hll : l.length ≤ 1000) : Calls Try.prog 87 #[.slice L l.length cL] w (RetBs 5 w (numsB l)) := by
  refine calls_of_CW Try.func87 rfl (by simp [Try.ntmps87]) ?_
  rw [Try.ntmps87]
  refine go_Nums (k := ?_)
  refine CW_meetB (fun e' w' => ∃ B cB, e' 3 = .slice B (numsB l).length cB ∧ w'.ownsRow w.heap.size 5 1 (.slice B (numsB l).length cB) (numsB l).length ((numsB l).map bv) ∧ Ext w w') ?_ ?_
  · refine CW_loop (fun e' w' => ∃ (k : Nat) (B : Option Addr) (cB : Nat), k ≤ l.length ∧ e' 3 = .slice B (numsB (l.take k)).length cB ∧ e' 6 = .slice L l.length cL ∧ e' 7 = .int .i64 l.length ∧ e' 8 = .int .i64 k ∧ w'.ownsRow w.heap.size 5 1 (.slice B (numsB (l.take k)).length cB) (numsB (l.take k)).length ((numsB (l.take k)).map bv) ∧ Ext w w') (fun e' _ => l.length - (intOf (e' 8)).toNat) ?_ ?_
    · exact ⟨0, none, 0, by omega, rfl, rfl, rfl, rfl, World.ownsRow_nil _ _ _ _, Ext.rfl' w⟩
    rintro e' w' ⟨k, B, cB, hk, q3, q6, q7, q8, hB, hx⟩
    rw [upd_self q3, upd_self q6, upd_self q7, upd_self q8]
    refine go_Nums (k := ?_)
    refine CW_cond _ rfl (fun h => ?_) (fun h => ?_)
    · have hlt : k < l.length := by have := of_decide_eq_true h; omega
      clear h
      obtain ⟨ad, rfl, hcell⟩ := (hL.ext hx).at_ hlt
      have hz : numsB (l.take k) ++ putL (u64N l[k]) 8 = numsB (l.take (k + 1)) := by rw [List.take_succ_eq_append_getElem hlt, numsB_snoc]
      have hzl : (numsB (l.take k)).length ≤ 8000 := by rw [numsB_length, List.length_take]; omega
      generalize numsB (l.take k) = z at *
      generalize l[k] = n at *
      refine go_Nums (k := ?_)
      rw [wrap_u64I]
      refine OW_callBs Try.func65 (by kernel_rfl) rfl (put64_any w' (u64N n) (u64N_lt _)) rfl ?_
      intro w5 A5 c5 hf5
      have hp8 := putL_length (u64N n) 8
      refine go_Nums (k := ?_)
      refine OW_apU rfl rfl (own_ext hB hf5.ext) hf5.bs (by omega) (hx.trans' hf5.ext).size ?_
      intro w6 A6 c6 ho6 hT6 hbel6
      rw [hz] at ho6 ⊢
      refine go_Nums (k := ?_)
      refine ⟨⟨k + 1, A6, c6, hlt, rfl, rfl, rfl, rfl, ho6, (hx.trans' hf5.ext).trans hbel6⟩, ?_⟩
      show l.length - ((k : Int) + 1).toNat < l.length - (k : Int).toNat
      omega
    · have hge : k = l.length := by have := of_decide_eq_false h; omega
      subst hge
      rw [List.take_length] at hB ⊢
      refine go_Nums (k := ?_)
      exact ⟨rfl, B, cB, rfl, hB, hx⟩
  rintro e' w5 ⟨B, cB, q3, hB, hx⟩
  rw [upd_self q3]
  refine go_Nums (k := ?_)
  exact bodyE_ret1 rfl (.slice B _ cB) rfl ⟨B, cB, rfl, hB, hx⟩
theorem num_set {x k : Nat} (hk : k < 8) : (List.replicate (8 - k) (0 : UInt8) ++ (putL x 8).drop (8 - k)).set (7 - k) (UInt8.ofNat (x / 256 ^ k)) = List.replicate (7 - k) 0 ++ (putL x 8).drop (7 - k) := by
  have hl := putL_length x 8
  have hg := putL_get (x := x) (n := 8) (i := 7 - k) (by omega)
  rw [List.getElem?_eq_getElem (by omega)] at hg
  have hg := Option.some.inj hg
  rw [show 8 - 1 - (7 - k) = k by omega] at hg
  rw [List.set_append_left _ _ (by rw [List.length_replicate]; omega), show 8 - k = (7 - k) + 1 by omega, List.replicate_succ', List.set_append_right _ _ (by rw [List.length_replicate]; exact Nat.le_refl _), List.length_replicate, Nat.sub_self, List.set_cons_zero, List.append_assoc, List.drop_eq_getElem_cons (i := 7 - k) (by omega), hg]
  rfl
set_option maxHeartbeats 8000000 in
theorem refNumber_any (w : World) (n : Int) : Calls Try.prog 83 #[.int .i64 n] w (RetBs 5 w (putL (u64N n) 8)) := by
  refine calls_of_CW Try.func83 rfl (by simp [Try.ntmps83]) ?_
  rw [Try.ntmps83]
  obtain ⟨x, hx⟩ : ∃ x, u64N n = x := ⟨_, rfl⟩
  have hxl := u64N_lt n
  rw [hx] at hxl
  refine go_Nums (k := ?_)
  refine OW_make und_bytes info_u8 rfl rfl rfl (n := 8) rfl rfl (by decide) (by decide) ?_
  intro w1 g1 hb1 hg1 hx1
  refine go_Nums (k := ?_)
  rw [wrap_u64I, hx]
  refine go_Nums (k := ?_)
  refine CW_loop (fun e' w' => ∃ k : Nat, k ≤ 8 ∧ e' 3 = .slice (some ⟨g1, 0, none⟩) 8 8 ∧ e' 4 = .int .u64 (x / 256 ^ k : Nat) ∧ e' 5 = .int .i64 (7 - (k : Int)) ∧ Blk w' g1 5 ((List.replicate (8 - k) (0 : UInt8) ++ (putL x 8).drop (8 - k)).map bv).toArray ∧ Ext w w') (fun e' _ => (intOf (e' 5) + 1).toNat) ?_ ?_
  · refine ⟨0, by omega, rfl, by simp; rfl, rfl, ?_, hx1⟩
    rw [List.drop_of_length_le (by rw [putL_length]; exact Nat.le_refl _)]
    exact hb1
  rintro e' w' ⟨k, hk, q3, q4, q5, hB, hx⟩
  rw [upd_self q3, upd_self q4, upd_self q5]
  have hy : x / 256 ^ k < 18446744073709551616 := Nat.lt_of_le_of_lt (Nat.div_le_self _ _) hxl
  have hs : x / 256 ^ k / 256 = x / 256 ^ (k + 1) := by rw [Nat.pow_succ, Nat.div_div_eq_div_mul]
  refine go_Nums (k := ?_)
  refine CW_cond _ rfl (fun h => ?_) (fun h => ?_)
  · have hlt : k < 8 := by have := of_decide_eq_true h; omega
    clear h
    refine go_Nums (k := ?_)
    refine OW_rem rfl rfl (by decide) ?_
    rw [rem_u32 _ 256 256 rfl]
    refine go_Nums (k := ?_)
    rw [wrap_u8_lt _ (Nat.mod_lt _ (by decide))]
    have hv : (Value.int .u8 ((x / 256 ^ k % 256 : Nat) : Int)) = bv (UInt8.ofNat (x / 256 ^ k)) := by simp [bv]
    refine OW_idxSB und_bytes one_u8 rfl rfl (7 - k) (by omega) (by omega) ?_
    refine OW_storeB one_u8 rfl (.int .u8 ((x / 256 ^ k % 256 : Nat) : Int)) rfl rfl hB (by simp [putL_length]; omega) ?_
    intro w2 hb2 hg2
    rw [hv, List.setIfInBounds_toArray, ← List.map_set, num_set hlt] at hb2
    refine go_Nums (k := ?_)
    refine OW_quo rfl rfl (by decide) ?_
    rw [quo_u64 _ 256 256 rfl hy, hs]
    refine go_Nums (k := ?_)
    refine ⟨⟨k + 1, by omega, rfl, rfl, ?_, ?_, (Keeps.of_only hg2 (S := (· = g1)) rfl).ext hx (fun j hj => by have hj : j = g1 := hj; omega)⟩, ?_⟩
    · show Value.int _ _ = _
      congr 1
      omega
    · rw [show 8 - (k + 1) = 7 - k by omega]
      exact hb2
    · show (7 - (k : Int) - 1 + 1).toNat < (7 - (k : Int) + 1).toNat
      omega
  · have hge : k = 8 := by have := of_decide_eq_false h; omega
    subst hge
    refine go_Nums (k := ?_)
    refine bodyE_ret1 rfl (.slice (some ⟨g1, 0, none⟩) 8 8) rfl ⟨some ⟨g1, 0, none⟩, 8, by rw [putL_length], ?_, hx⟩
    rw [putL_length]
    exact own_of_blk hg1 hB (by simp [putL_length]) (Nat.le_refl _) (by decide) (by simp only [Nat.sub_self, List.replicate_zero, List.nil_append, List.drop_zero]; exact List.take_of_length_le (by rw [List.length_map, putL_length]; exact Nat.le_refl _))
end Go.Proofs.Ytdpcahfgdpikfaa

/- Literal slices whose elements have many cells. No program in sight. -/
namespace Go.Proofs.Ytdpcahfgdpikfaa
open Go Go.RowKit
set_option linter.unusedVariables false
def partsM : List (List Value) → Nat → List (Nat × Value)
  | [], _ => []
  | cs :: l, k => (k, .agg cs.toArray) :: partsM l (k + 1)
theorem foldl_set (o : Nat) : ∀ (l : List Value) (j : Nat) (arr : Array Value), o + j + l.length ≤ arr.size →
    (l.zipIdx j).foldl (fun cs (x : Value × Nat) => cs.setIfInBounds (o + x.2) x.1) arr = (arr.toList.take (o + j) ++ l ++ arr.toList.drop (o + j + l.length)).toArray
  | [], j, arr, h => by simp
  | v :: l, j, arr, h => by
    simp only [List.length_cons] at h
    rw [List.zipIdx_cons, List.foldl_cons, foldl_set o l (j + 1) _ (by simp; omega)]
    apply Array.ext'
    simp only [Array.toList_setIfInBounds, List.length_cons]
    rw [show o + (j + 1) = o + j + 1 by omega, List.take_succ_eq_append_getElem (by simp; omega), List.getElem_set_self, List.take_set_of_le (Nat.le_refl _), List.drop_set_of_lt (by omega), show o + j + 1 + l.length = o + j + (l.length + 1) by omega]
    simp
theorem fill_partsM (m : Nat) : ∀ (vss : List (List Value)) (k : Nat) (cs : Array Value), (∀ v ∈ vss, v.length = m) → cs.size = (k + vss.length) * m → Instr.fill (fun i => some (i * m, m)) cs (partsM vss k) = some (cs.toList.take (k * m) ++ vss.flatten).toArray
  | [], k, cs, _, hs => by
    simp only [partsM, Instr.fill, List.flatten_nil, List.append_nil]
    rw [List.take_of_length_le (by simp at hs ⊢; omega)]
  | v :: vss, k, cs, h1, hs => by
    have hv := h1 v List.mem_cons_self
    simp only [List.length_cons] at hs
    have hkm : (k + 1) * m ≤ cs.size := by rw [hs]; exact Nat.mul_le_mul_right _ (by omega)
    rw [Nat.add_mul, Nat.one_mul] at hkm
    have hf := foldl_set (k * m) v 0 cs (by omega)
    unfold partsM Instr.fill
    have hc : ¬ ((decide ((Value.agg v.toArray).cells.size ≠ m) || decide (k * m + (Value.agg v.toArray).cells.size > cs.size)) = true) := by
      show ¬ ((decide (v.toArray.size ≠ m) || decide (k * m + v.toArray.size > cs.size)) = true)
      simp [hv]; omega
    have hz : (Value.agg v.toArray).cells.zipIdx.foldl (fun (cs : Array Value) (x : Value × Nat) => cs.setIfInBounds (k * m + x.2) x.1) cs = (cs.toList.take (k * m) ++ v ++ cs.toList.drop (k * m + v.length)).toArray := by
      rw [← Array.foldl_toList]
      show ((v.toArray.zipIdx).toList).foldl _ _ = _
      rw [Array.toList_zipIdx]
      exact hf
    have hl1 : (cs.toList.take (k * m) ++ v).length = (k + 1) * m := by simp only [List.length_append, List.length_take, Nat.add_mul, Nat.one_mul, Array.length_toList, hv]; omega
    have ih := fill_partsM m vss (k + 1) (cs.toList.take (k * m) ++ v ++ cs.toList.drop (k * m + v.length)).toArray (fun u hu => h1 u (List.mem_cons_of_mem _ hu)) (by
      rw [List.size_toArray, List.length_append, hl1, List.length_drop, Array.length_toList, hs, hv]
      have : (k + 1 + vss.length) * m = (k + (vss.length + 1)) * m := by congr 1; omega
      rw [this]
      have : k * m + m ≤ (k + (vss.length + 1)) * m := by rw [← hs]; omega
      rw [Nat.add_mul k 1 m]
      omega)
    have e : (cs.toList.take (k * m) ++ v ++ cs.toList.drop (k * m + v.length)).toArray.toList.take ((k + 1) * m) = cs.toList.take (k * m) ++ v := List.take_left' hl1
    rw [e, List.append_assoc (cs.toList.take (k * m)) v vss.flatten, ← List.flatten_cons] at ih
    simp only
    rw [if_neg hc]
    exact hz ▸ ih
section
variable {P : Program} {ops : Array Oper} {Q : Exit → (Nat → Value) → World → Prop} {rest : List Oper} {e : Nat → Value} {w : World} {d : Tmp} {ty : TypeId} {pos : String} {aft : Array Edge}
theorem OW_litM {t el : TypeId} {n : Nat} {parts : Array (Nat × Operand)} {m : Nat} {zs : List Value} (vss : List (List Value)) (ht : P.underlying t = some (.slice el)) (hel : AggT P el m zs)
    (hp : parts.toList.map (fun x => (x.1, ev e x.2)) = partsM vss 0) (hn : n = vss.length) (h1 : ∀ v ∈ vss, v.length = m) (hlt : n * m ≤ 10000)
    (h : ∀ w' g, Blk w' g el vss.flatten.toArray → w.heap.size ≤ g → g < w'.heap.size → Ext w w' → OW P ops Q rest (upd e d (.slice (some ⟨g, 0, none⟩) n n)) w') : OW P ops Q (⟨some d, .buildSlice t n parts, ty, pos, aft, none⟩ :: rest) e w := by
  refine OW_valw (.slice (some ⟨w.heap.size, 0, none⟩) n n) (w.alloc (.cells vss.flatten.toArray el)) rfl ?_ (h _ w.heap.size (Blk.new w el _) (Nat.le_refl _) (by simp) (Ext.alloc' w _))
  have hpp : (parts.map fun x => (x.1, ev e x.2)).toList = partsM vss 0 := by rw [Array.toList_map]; exact hp
  have hbig : ¬ (n * m > 2 ^ 24) := by omega
  have key : ∀ zs : Array Value, zs.size = n * m → Instr.fill (fun i => some (i * m, m)) zs (parts.map fun x => (x.1, ev e x.2)).toList = some vss.flatten.toArray := fun zs hz => by
    rw [hpp, fill_partsM m vss 0 zs h1 (by rw [hz, hn]; simp)]
    simp
  have hs : ∀ w, (sizeOf el).run P w = .ok m w := by
    obtain ⟨i, hi, hm⟩ := Option.map_eq_some_iff.1 hel.size
    intro w
    simp [sizeOf, typeInfo, hi, hm]
  have hzv : ∀ w, (zeroValue el).run P w = .ok (.agg zs.toArray) w := hel.zero
  have hrun : (Instr.buildSlice t n (parts.map fun x => (x.1, ev e x.2))).run P w = .ok (.slice (some ⟨w.heap.size, 0, none⟩) n n) (w.alloc (.cells vss.flatten.toArray el)) := by
    by_cases h0 : n * m = 0
    · simp only [Instr.buildSlice, Sem.run_bind, run_underlying ht, Result.andThen_ok, hs, Sem.run_pure, if_neg hbig, if_pos h0, key _ (show (Array.map (fun x => (#[] : Array Value)[x % (#[] : Array Value).size]!) (Array.range (n * m))).size = n * m by simp)]
      rfl
    · simp only [Instr.buildSlice, Sem.run_bind, run_underlying ht, Result.andThen_ok, hs, Sem.run_pure, if_neg hbig, if_neg h0, hzv, key _ (show (Array.map (fun x => (Value.agg zs.toArray).cells[x % (Value.agg zs.toArray).cells.size]!) (Array.range (n * m))).size = n * m by simp)]
      rfl
  simp only [execOp, Sem.run_bind]
  rw [show (parts.map fun (x : Nat × Operand) => match x with | (i, x) => (i, ev e x)) = parts.map fun x => (x.1, ev e x.2) from rfl, hrun]
  rfl
end
end Go.Proofs.Ytdpcahfgdpikfaa

/- Walks: a link's hash, by audit and by the reference; the head of links. -/
namespace Go.Proofs.Ytdpcahfgdpikfaa
open Go Go.RowKit
set_option linter.unusedVariables false
set_option maxRecDepth 4000
theorem go_Aud1 {A B : Prop} (h : Held B → A := by
  intro hEnd
  repeat (first | refine OW_fieldB fldo_L0 rfl ?_ | refine OW_fieldB fldo_L1 rfl ?_ | refine OW_fieldB fldo_L2 rfl ?_ | refine OW_fieldB fldo_L3 rfl ?_ | refine OW_fieldB fldo_L4 rfl ?_ | refine OW_fieldB fldo_L5 rfl ?_ | refine OW_fieldB fldo_L6 rfl ?_ | refine OW_fieldB fldo_L7 rfl ?_ | refine OW_fieldB fldo_L8 rfl ?_ | refine OW_slicePO a_slp_Tag rfl ?_ | refine OW_lenS und_ints rfl ?_ | refine OW_lenS und_Links rfl ?_ | refine OW_idxS und_ints s_int rfl rfl _ rfl (by omega) ?_ | refine OW_moveV (.int _ _) rfl ?_ | refine OW_moveV (.slice _ _ _) rfl ?_ | refine OW_moveV (.bool _) rfl ?_ | refine OW_moveV (.pointer _) rfl ?_ | refine OW_moveV (.string _) rfl ?_ | refine OW_moveV (.agg _) rfl ?_ | refine OW_moveV (.tuple _) rfl ?_ | refine OW_nil ?_ | refine thenE_normal ?_ | refine CW_seq ?_ | refine CW_region (by kernel_rfl) ?_ | refine OW_assignV (.int _ _) rfl ?_ | refine OW_assignV (.slice _ _ _) rfl ?_ | refine OW_assignV (.bool _) rfl ?_ | refine OW_assignV (.pointer _) rfl ?_ | refine OW_assignV (.string _) rfl ?_ | refine OW_assignV (.agg _) rfl ?_ | refine OW_assignV (.tuple _) rfl ?_ | refine OW_addI rfl rfl (by omega) ?_ | refine OW_subI rfl rfl (by omega) ?_ | refine OW_mulI rfl rfl (by omega) ?_ | refine OW_lss rfl rfl ?_ | refine OW_extract rfl rfl ?_ | refine OW_gtr rfl rfl ?_ | refine OW_leq rfl rfl ?_ | refine OW_geq rfl rfl ?_ | refine OW_eql rfl rfl ?_ | refine OW_neq rfl rfl ?_ | refine OW_not rfl ?_ | refine OW_pickT rfl _ rfl ?_ | refine OW_pickF rfl (.bool _) rfl ?_ | refine OW_pickB rfl rfl rfl ?_ | refine OW_move ?_ | refine OW_assign ?_ | refine OW_pass rfl ?_ | refine OW_take rfl ?_ | refine OW_lenS (by first | with_reducible exact und_bytes | with_reducible exact und_bytess) rfl ?_ | refine OW_convInt (by first | with_reducible exact und_u8 | with_reducible exact und_u64 | with_reducible exact und_int | with_reducible exact und_u32) (by first | with_reducible exact und_u8 | with_reducible exact und_u64 | with_reducible exact und_int | with_reducible exact und_u32) rfl ?_ | refine OW_add rfl rfl ?_ | refine OW_sub rfl rfl ?_ | refine OW_mul rfl rfl ?_ | refine OW_min2 rfl rfl ?_ | refine OW_max2 rfl rfl ?_ | refine OW_neg rfl ?_ | refine CW_block ?_ | refine CW_condT rfl ?_ | refine CW_condF rfl ?_ | refine CW_exit ?_ | refine CW_ret ?_ | refine CW_skip ?_ | refine LW_seq ?_ | refine LW_regC ?_ | refine LW_condC ?_ | refine LW_regF ?_ | refine LW_condF ?_ | refine FW_seq ?_ | refine FW_region (by kernel_rfl) ?_ | refine FW_block ?_ | refine FW_condT rfl ?_ | refine FW_condF rfl ?_ | refine FW_exit ?_ | refine FW_ret ?_ | refine FW_skip ?_ | refine LW_ret ?_ | refine LW_skip ?_ | refine thenE_exit ?_ | refine thenE_ret ?_ | refine inBlockE_normal ?_ | refine inBlockE_same ?_ | refine inBlockE_ret ?_ | refine inBlockE_ne (by rfl) ?_ | refine OW_eqlB (by with_reducible exact und_bool) rfl rfl ?_ | refine OW_neqB (by with_reducible exact und_bool) rfl rfl ?_ | refine OW_idxS (by with_reducible exact und_bytes) one_u8 rfl rfl _ rfl (by omega) ?_ | refine OW_idxS (by with_reducible exact und_bytess) one_bytes rfl rfl _ rfl (by omega) ?_ | refine OW_load1 (by first | with_reducible exact one_u8 | with_reducible exact one_bytes) rfl _ (by assumption) ?_ | (refine OW_isLoad ?_; refine OW_loadBk (by first | with_reducible exact s_int | with_reducible exact one_u8) rfl (by assumption) _ (by rfl) ?_) | refine OW_load1 s_int rfl _ (by assumption) ?_)
  exact hEnd.out) (k : B) : A := h ⟨k⟩
section
variable {P : Program} {ops : Array Oper} {Q : Exit → (Nat → Value) → World → Prop} {rest : List Oper} {e : Nat → Value} {w : World} {d : Tmp} {ty : TypeId} {pos : String} {aft : Array Edge}
/-- A row behind a pointer into the midst of a block, whole. -/
structure SlPO (P : Program) (t : TypeId) (n : Nat) : Prop where
  run : ∀ w g o, (Instr.sliceAt t (.pointer (some ⟨g, o, none⟩)) none none none).run P w = .ok (.slice (some ⟨g, o, none⟩) n n) w
theorem OW_slicePO {x : Operand} {t : TypeId} {g o n : Nat} (hr : SlPO P t n) (hx : ev e x = .pointer (some ⟨g, o, none⟩)) (h : OW P ops Q rest (upd e d (.slice (some ⟨g, o, none⟩) n n)) w) : OW P ops Q (⟨some d, .slice t x none none none, ty, pos, aft, none⟩ :: rest) e w :=
  OW_val _ rfl (by simp only [execOp, hx, Option.map, Sem.run_bind, hr.run w g o]; rfl) h
end
theorem a_slp_Tag : SlPO Try.prog 29 32 := ⟨fun w g o => by kernel_rfl⟩
theorem a_info_int : (Try.prog.info? 3).map (fun i => (i.zero, i.size, i.bytes)) = some (some (.int .i64 0), 1, 8) := by kernel_rfl
theorem und_Links : Try.prog.underlying 74 = some (.slice 76) := Try.underlying74
theorem el_Link : ElT Try.prog 76 71 := ⟨by kernel_rfl⟩
def kLinks : KD Try.prog 74 (List LK) := kSlice kLink und_Links (by kernel_rfl) (of_decide_eq_true (by kernel_rfl))
/-- Links that are read. -/
def LRd (w : World) (A : Option Addr) (l : List LK) : Prop := RdN w A 71 (l.map lcells)
theorem LRd.ext {w w' : World} {A : Option Addr} {l : List LK} (h : LRd w A l) (hx : Ext w w') : LRd w' A l := RdN.ext h hx
theorem links_of {w : World} {A : Option Addr} {l : List LK} (h : SlR kLink.n kLink.R w A l) : LRd w A l ∧ ∀ x ∈ l, LOk x :=
  ⟨slr_rdN lcells (by decide) (fun cs a hr => hr.1) h, fun x hx => by
    obtain ⟨i, hi, rfl⟩ := List.mem_iff_getElem.1 hx
    obtain ⟨ad, ce, e1, e2, e3, e4⟩ := h i hi
    exact e4.2⟩
theorem LRd.at_ {w : World} {A : Option Addr} {l : List LK} (h : LRd w A l) {i : Nat} (hi : i < l.length) : ∃ ad, A = some ad ∧ At w (ad.add (i * 71)) (lcells l[i]) := by
  obtain ⟨ad, ha, hc⟩ := RdN.at_ h (by decide) (i := i) (by simpa using hi)
  exact ⟨ad, ha, by simpa using hc⟩
theorem LRd.nil (w : World) (A : Option Addr) : LRd w A [] := RdN.nil _ _ _
theorem a_bldTag : ∀ w, (Instr.build 29 [].toArray).run Try.prog w = .ok (.agg (tzS.map bv).toArray) w := fun w => by kernel_rfl
theorem at_part {w : World} {ad : Addr} {cs xs : List Value} {k n : Nat} (h : At w ad cs) (hx : (cs.drop k).take n = xs) : At w (ad.add k) xs := fun j u hu => by
  rw [Addr.add_add]
  refine h (k + j) u ?_
  rw [← hx] at hu
  have hj := (List.getElem?_eq_some_iff.1 hu).1
  rw [List.length_take] at hj
  rw [List.getElem?_take_of_lt (by omega), List.getElem?_drop] at hu
  exact hu
theorem i64_b8 (b : UInt8) : IntKind.i64.wrap (b.toNat : Int) = b.toNat := by
  have h := b.toNat_lt
  exact wrap64_in (by omega)
theorem at_bs {w : World} {ad : Addr} {l : List UInt8} (h : At w ad (l.map bv)) : Bs w (some ad) l := fun j u hu => ⟨ad, rfl, h j u hu⟩
set_option maxHeartbeats 8000000 in
theorem audHash_any (w : World) (l : LK) (h : LOk l) : Calls Try.prog 52 #[.agg (lcells l).toArray] w (RetV w (.agg ((linkH l).map bv).toArray)) := by
  have hla := h.ahead
  refine calls_of_CW Try.func52 rfl (by simp [Try.ntmps52]) ?_
  rw [Try.ntmps52]
  refine go_Aud1 (k := ?_)
  refine OW_box _ rfl ?_
  intro w1 g1 hb1 hg1 hlt1 hx1
  have hb1 : Blk w1 g1 76 (lcells l).toArray := hb1
  refine go_Aud1 (k := ?_)
  refine OW_allocA s_agg_Tag ?_
  intro w2 g2 hb2 hg2 hlt2 hx2
  replace hb1 := hb1.ext hx2
  have hx02 := hx1.trans' hx2
  refine go_Aud1 (k := ?_)
  rw [i64_b8]
  refine OW_lit [.int .i64 l.n, .int .i64 l.stamp, .int .i64 l.op.toNat, .int .i64 l.ten, .int .i64 l.a, .int .i64 l.b, .int .i64 l.c] und_ints a_info_int rfl rfl (by simp [Value.oneCell']) (by decide) ?_
  intro w3 g3 hb3 hg3 hx3
  replace hb1 := hb1.ext hx3
  replace hb2 := hb2.ext hx3
  have hx03 := hx02.trans' hx3
  have hN := audNums_any w3 (some ⟨g3, 0, none⟩) 7 [l.n, l.stamp, l.op.toNat, l.ten, l.a, l.b, l.c] (by unfold Is; simpa [iv] using hb3.rd) (by show 7 ≤ 1000; decide)
  clear hb3
  refine go_Aud1 (k := ?_)
  refine OW_callBs Try.func94 (by kernel_rfl) rfl hN rfl ?_
  intro w4 A4 c4 hf4
  have hnl := numsB_length [l.n, l.stamp, l.op.toNat, l.ten, l.a, l.b, l.c]
  have hB : numsB [l.n, l.stamp, l.op.toNat, l.ten, l.a, l.b, l.c] ++ l.ahead = linkB l := rfl
  have hBl := linkB_len hla
  generalize numsB [l.n, l.stamp, l.op.toNat, l.ten, l.a, l.b, l.c] = z at *
  replace hb1 := hb1.ext hf4.ext
  replace hb2 := hb2.ext hf4.ext
  have hx04 := hx03.trans' hf4.ext
  have hal := at_bs (ahead_in h hb1)
  clear hN
  refine go_Aud1 (k := ?_)
  rw [show (Value.slice (some ⟨g1, 7, none⟩) 32 32) = .slice (some ⟨g1, 7, none⟩) l.ahead.length 32 from by rw [hla]]
  refine OW_apU rfl rfl (own_mono hf4.own hx03.size) hal (by rw [hnl, hla]; show 8 * 7 + 32 ≤ 1000000; decide) hx04.size ?_
  intro w5 A5 c5 ho5 hT5 hbel5
  rw [hB] at ho5 ⊢
  have hb25 := hT5 _ _ _ (by decide) hb2
  have hx05 : Ext w w5 := hx04.trans hbel5
  have hHl : (linkH l).length = 32 := shaL_length _
  refine go_Aud1 (k := ?_)
  refine OW_callV Try.func19 (by kernel_rfl) rfl (shaSum_any w5 A5 c5 (linkB l) (own_rd ho5) (by omega)) rfl ?_
  intro w6 hx6
  replace hb25 := hb25.ext hx6
  rw [show shaL (linkB l) = linkH l from rfl]
  generalize linkH l = H at *
  refine go_Aud1 (k := ?_)
  refine OW_storeA s_agg_Tag rfl (H.map bv) rfl (by rw [List.length_map, hHl]) hb25 rfl (bv_one _) ?_
  intro w7 hb7 hg7
  have hx07 : Ext w w7 := (Keeps.of_only hg7 (S := (· = g2)) rfl).ext (hx05.trans' hx6) (fun j hj => by have hj : j = g2 := hj; have := hx1.size; omega)
  refine go_Aud1 (k := ?_)
  exact bodyE_retc rfl s_agg_Tag rfl (H.map bv) (by rw [List.length_map, hHl]) (Blk.range hb7) ⟨rfl, hx07⟩
set_option maxHeartbeats 8000000 in
theorem audHead_any (w : World) (A : Option Addr) (c : Nat) (l : List LK) (hl : LRd w A l) (hk : ∀ x ∈ l, LOk x) (hn : l.length ≤ 1000000) : Calls Try.prog 54 #[.slice A l.length c] w (RetV w (.agg ((headL l).map bv).toArray)) := by
  refine calls_of_CW Try.func54 rfl (by simp [Try.ntmps54]) ?_
  rw [Try.ntmps54]
  refine go_Aud1 (k := ?_)
  refine OW_allocA s_agg_Tag ?_
  intro w1 g1 hb1 hg1 hlt1 hx1
  refine go_Aud1 (k := ?_)
  refine CW_cond _ rfl (fun hh => ?_) (fun hh => ?_)
  · have hz : l = [] := List.eq_nil_of_length_eq_zero (by have := hh; simp at this; simpa using this)
    subst hz
    refine go_Aud1 (k := ?_)
    refine OW_build _ _ a_bldTag rfl ?_
    refine go_Aud1 (k := ?_)
    refine OW_storeA s_agg_Tag rfl (tzS.map bv) rfl rfl hb1 (by kernel_rfl) (bv_one _) ?_
    intro w2 hb2 hg2
    have hx02 : Ext w w2 := (Keeps.of_only hg2 (S := (· = g1)) rfl).ext hx1 (fun j hj => by have hj : j = g1 := hj; omega)
    refine go_Aud1 (k := ?_)
    exact bodyE_retc rfl s_agg_Tag rfl (tzS.map bv) rfl (Blk.range hb2) ⟨rfl, hx02⟩
  have hpos : 0 < l.length := by
    have : ¬ (l.length : Int) = 0 := by simpa using hh
    omega
  clear hh
  obtain ⟨ad, rfl, hat⟩ := (hl.ext hx1).at_ (i := l.length - 1) (by omega)
  have hlast : headL l = (l[l.length - 1]'(by omega)).self := by
    unfold headL
    rw [List.getLast?_eq_getElem?, List.getElem?_eq_getElem (by omega)]
  have hx := hk _ (List.getElem_mem (show l.length - 1 < l.length by omega))
  rw [hlast]
  generalize l[l.length - 1]'(by omega) = x at *
  have hs := at_part hat (lk_drop39 hx)
  have hsl : (x.self.map bv).length = 32 := by rw [List.length_map, hx.self]
  refine go_Aud1 (k := ?_)
  refine OW_idxN und_Links el_Link rfl rfl (l.length - 1) (by omega) (by omega) ?_
  refine OW_fieldO fldo_L8 rfl ?_
  refine OW_loadX s_agg_Tag rfl (x.self.map bv) hsl hs ?_
  refine OW_storeA s_agg_Tag rfl (x.self.map bv) rfl hsl hb1 (by kernel_rfl) (bv_one _) ?_
  intro w2 hb2 hg2
  have hx02 : Ext w w2 := (Keeps.of_only hg2 (S := (· = g1)) rfl).ext hx1 (fun j hj => by have hj : j = g1 := hj; omega)
  refine go_Aud1 (k := ?_)
  exact bodyE_retc rfl s_agg_Tag rfl (x.self.map bv) hsl (Blk.range hb2) ⟨rfl, hx02⟩
set_option maxHeartbeats 8000000 in
theorem refLHash_any (w : World) (l : LK) (h : LOk l) : Calls Try.prog 53 #[.agg (lcells l).toArray] w (RetV w (.agg ((linkH l).map bv).toArray)) := by
  have hla := h.ahead
  refine calls_of_CW Try.func53 rfl (by simp [Try.ntmps53]) ?_
  rw [Try.ntmps53]
  refine go_Aud1 (k := ?_)
  refine OW_box _ rfl ?_
  intro w1 g1 hb1 hg1 hlt1 hx1
  have hb1 : Blk w1 g1 76 (lcells l).toArray := hb1
  refine go_Aud1 (k := ?_)
  refine OW_allocA s_agg_Tag ?_
  intro w2 g2 hb2 hg2 hlt2 hx2
  replace hb1 := hb1.ext hx2
  have hx02 := hx1.trans' hx2
  refine go_Aud1 (k := ?_)
  rw [i64_b8]
  refine OW_lit [.int .i64 l.n, .int .i64 l.stamp, .int .i64 l.op.toNat, .int .i64 l.ten, .int .i64 l.a, .int .i64 l.b, .int .i64 l.c] und_ints a_info_int rfl rfl (by simp [Value.oneCell']) (by decide) ?_
  intro w3 g3 hb3 hg3 hx3
  replace hb1 := hb1.ext hx3
  replace hb2 := hb2.ext hx3
  have hx03 := hx02.trans' hx3
  obtain ⟨ns, hns⟩ : ∃ ns : List Int, ns = [l.n, l.stamp, l.op.toNat, l.ten, l.a, l.b, l.c] := ⟨_, rfl⟩
  have hnl : ns.length = 7 := by rw [hns]; rfl
  have hbn : Blk w3 g3 3 (ns.map (Value.int .i64)).toArray := by rw [hns]; exact hb3
  clear hb3
  refine go_Aud1 (k := ?_)
  refine CW_meetB (fun e' w' => ∃ A8 c8, e' 1 = .pointer (some ⟨g1, 0, none⟩) ∧ e' 2 = .pointer (some ⟨g2, 0, none⟩) ∧ e' 3 = .slice A8 (numsB ns).length c8 ∧ w'.ownsRow w.heap.size 5 1 (.slice A8 (numsB ns).length c8) (numsB ns).length ((numsB ns).map bv) ∧ Ext w w' ∧ Blk w' g1 76 (lcells l).toArray ∧ Blk w' g2 29 (tzS.map bv).toArray) ?_ ?_
  · refine go_Aud1 (k := ?_)
    refine CW_loop (fun e' w' => ∃ (k : Nat) (A8 : Option Addr) (c8 : Nat), k ≤ 7 ∧ e' 1 = .pointer (some ⟨g1, 0, none⟩) ∧ e' 2 = .pointer (some ⟨g2, 0, none⟩) ∧ e' 3 = .slice A8 (numsB (ns.take k)).length c8 ∧ e' 4 = .slice (some ⟨g3, 0, none⟩) 7 7 ∧ e' 5 = .int .i64 k ∧ w'.ownsRow w.heap.size 5 1 (.slice A8 (numsB (ns.take k)).length c8) (numsB (ns.take k)).length ((numsB (ns.take k)).map bv) ∧ Ext w w' ∧ Blk w' g1 76 (lcells l).toArray ∧ Blk w' g2 29 (tzS.map bv).toArray ∧ Blk w' g3 3 (ns.map (Value.int .i64)).toArray) (fun e' _ => 7 - (intOf (e' 5)).toNat) ⟨0, none, 0, Nat.zero_le _, rfl, rfl, rfl, rfl, rfl, World.ownsRow_nil _ _ _ _, hx03, hb1, hb2, hbn⟩ ?_
    clear hb1 hb2 hbn
    rintro e' w4 ⟨k, A8, c8, hk, e1, e2, e3, e4, e5, ho4, hx4, hb1, hb2, hbn⟩
    rw [upd_self e1, upd_self e2, upd_self e3, upd_self e4, upd_self e5]
    have hzl := numsB_length (ns.take k)
    rw [List.length_take] at hzl
    refine go_Aud1 (k := ?_)
    refine CW_cond _ rfl (fun hh => ?_) (fun hh => ?_)
    · have hlt2 : k < 7 := by have := of_decide_eq_true hh; omega
      clear hh
      have hc : w4.cell? ((⟨g3, 0, none⟩ : Addr).add k) = some (.int .i64 (ns[k]'(by omega))) := by
        rw [add0, hbn.cell]
        simp [show k < ns.length by omega]
      have hz : numsB (ns.take k) ++ putL (u64N (ns[k]'(by omega))) 8 = numsB (ns.take (k + 1)) := by rw [List.take_succ_eq_append_getElem (show k < ns.length by omega), numsB_snoc]
      generalize numsB (ns.take k) = z at *
      generalize ns[k]'(by omega) = y at *
      refine go_Aud1 (k := ?_)
      refine OW_callBs Try.func83 (by kernel_rfl) rfl (refNumber_any w4 y) rfl ?_
      intro w5 A5 c5 hf5
      refine OW_apU rfl rfl (own_ext ho4 hf5.ext) hf5.bs (by rw [putL_length]; omega) (hx4.trans' hf5.ext).size ?_
      intro w6 A6 c6 ho6 hT6 hbel6
      rw [hz] at ho6 ⊢
      refine go_Aud1 (k := ?_)
      refine ⟨⟨k + 1, A6, c6, by omega, rfl, rfl, rfl, rfl, rfl, ho6, (hx4.trans' hf5.ext).trans hbel6, hT6 _ _ _ (by decide) (hb1.ext hf5.ext), hT6 _ _ _ (by decide) (hb2.ext hf5.ext), hT6 _ _ _ (by decide) (hbn.ext hf5.ext)⟩, ?_⟩
      show 7 - ((k : Int) + 1).toNat < 7 - (k : Int).toNat
      omega
    · have hge : k = 7 := by have := of_decide_eq_false hh; omega
      subst hge
      rw [List.take_of_length_le (by omega)] at ho4 ⊢
      refine go_Aud1 (k := ?_)
      exact ⟨rfl, A8, c8, rfl, rfl, rfl, ho4, hx4, hb1, hb2⟩
  clear hb1 hb2 hbn
  rintro e4 w4 ⟨A4, c4, q1, q2, q3, ho4, hx4, hb1, hb2⟩
  rw [upd_self q1, upd_self q2, upd_self q3]
  have hzl := numsB_length ns
  have hB : numsB ns ++ l.ahead = linkB l := by rw [hns]; rfl
  have hBl := linkB_len hla
  generalize numsB ns = z at *
  refine go_Aud1 (k := ?_)
  refine CW_meetB (fun e' w' => ∃ A8 c8, e' 2 = .pointer (some ⟨g2, 0, none⟩) ∧ e' 3 = .slice A8 (linkB l).length c8 ∧ w'.ownsRow w.heap.size 5 1 (.slice A8 (linkB l).length c8) (linkB l).length ((linkB l).map bv) ∧ Ext w w' ∧ Blk w' g2 29 (tzS.map bv).toArray) ?_ ?_
  · refine go_Aud1 (k := ?_)
    refine CW_loop (fun e' w' => ∃ (k : Nat) (A8 : Option Addr) (c8 : Nat), k ≤ 32 ∧ e' 1 = .pointer (some ⟨g1, 0, none⟩) ∧ e' 2 = .pointer (some ⟨g2, 0, none⟩) ∧ e' 3 = .slice A8 (z ++ l.ahead.take k).length c8 ∧ e' 6 = .int .i64 k ∧ w'.ownsRow w.heap.size 5 1 (.slice A8 (z ++ l.ahead.take k).length c8) (z ++ l.ahead.take k).length ((z ++ l.ahead.take k).map bv) ∧ Ext w w' ∧ Blk w' g1 76 (lcells l).toArray ∧ Blk w' g2 29 (tzS.map bv).toArray) (fun e' _ => 32 - (intOf (e' 6)).toNat) ⟨0, A4, c4, Nat.zero_le _, rfl, rfl, by simp only [List.take_zero, List.append_nil]; rfl, rfl, by simpa using ho4, hx4, hb1, hb2⟩ ?_
    clear hb1 hb2 ho4
    rintro e' w5 ⟨k, A8, c8, hk, e1, e2, e3, e6, ho5, hx5, hb1, hb2⟩
    rw [upd_self e1, upd_self e2, upd_self e3, upd_self e6]
    have hzl2 : (z ++ l.ahead.take k).length ≤ 1000 := by rw [List.length_append, List.length_take]; omega
    refine go_Aud1 (k := ?_)
    refine CW_cond _ rfl (fun hh => ?_) (fun hh => ?_)
    · have hlt2 : k < 32 := by have := of_decide_eq_true hh; omega
      clear hh
      have hc : w5.cell? ⟨g1, 7 + k, none⟩ = some (bv (l.ahead[k]'(by omega))) := by
        have := ahead_in h hb1 k (bv (l.ahead[k]'(by omega))) (by simp [show k < l.ahead.length by omega])
        rwa [addr_add_off] at this
      have hz : (z ++ l.ahead.take k) ++ [l.ahead[k]'(by omega)] = z ++ l.ahead.take (k + 1) := by rw [List.append_assoc, List.take_succ_eq_append_getElem (show k < l.ahead.length by omega)]
      generalize z ++ l.ahead.take k = y at *
      generalize l.ahead[k]'(by omega) = x at *
      refine go_Aud1 (k := ?_)
      refine OW_idxA s_und_Tag one_u8 rfl rfl k rfl (by omega) ?_
      rw [addr_add_off]
      refine OW_load1 one_u8 rfl _ hc ?_
      refine OW_lit [bv x] und_bytes info_u8 rfl rfl (by simp [bv, Value.oneCell']) (by decide) ?_
      intro w6 g6 hb6 hg6 hx6
      refine OW_apU (l' := [x]) rfl rfl (own_ext ho5 hx6) (bs_lit [x] _ hb6 rfl) (by simp; omega) (hx5.trans' hx6).size ?_
      intro w7 A7 c7 ho7 hT7 hbel7
      rw [hz] at ho7 ⊢
      refine go_Aud1 (k := ?_)
      refine ⟨⟨k + 1, A7, c7, by omega, rfl, rfl, rfl, rfl, ho7, (hx5.trans' hx6).trans hbel7, hT7 _ _ _ (by decide) (hb1.ext hx6), hT7 _ _ _ (by decide) (hb2.ext hx6)⟩, ?_⟩
      show 32 - ((k : Int) + 1).toNat < 32 - (k : Int).toNat
      omega
    · have hge : k = 32 := by have := of_decide_eq_false hh; omega
      subst hge
      rw [List.take_of_length_le (by omega), hB] at ho5 ⊢
      refine go_Aud1 (k := ?_)
      exact ⟨rfl, A8, c8, rfl, rfl, ho5, hx5, hb2⟩
  clear hb1 hb2 ho4
  rintro e5 w5 ⟨A5, c5, q2, q3, ho5, hx5, hb25⟩
  rw [upd_self q2, upd_self q3]
  have hHl : (linkH l).length = 32 := shaL_length _
  refine go_Aud1 (k := ?_)
  refine OW_callV Try.func24 (by kernel_rfl) rfl (refSum_any w5 A5 c5 (linkB l) (own_rd ho5) (by omega)) rfl ?_
  intro w6 hx6
  replace hb25 := hb25.ext hx6
  rw [show shaL (linkB l) = linkH l from rfl]
  generalize linkH l = H at *
  refine go_Aud1 (k := ?_)
  refine OW_storeA s_agg_Tag rfl (H.map bv) rfl (by rw [List.length_map, hHl]) hb25 rfl (bv_one _) ?_
  intro w7 hb7 hg7
  have hx07 : Ext w w7 := (Keeps.of_only hg7 (S := (· = g2)) rfl).ext (hx5.trans' hx6) (fun j hj => by have hj : j = g2 := hj; have := hx1.size; omega)
  refine go_Aud1 (k := ?_)
  exact bodyE_retc rfl s_agg_Tag rfl (H.map bv) (by rw [List.length_map, hHl]) (Blk.range hb7) ⟨rfl, hx07⟩
end Go.Proofs.Ytdpcahfgdpikfaa

/- Cuts of rows of elements of many cells; whole elements that are loaded in regions that draw; rows compared. No program in sight. -/
namespace Go.Proofs.Ytdpcahfgdpikfaa
open Go Go.RowKit Go.ChangeShapes Go.WideShapes
set_option linter.unusedVariables false
def cutN (A : Option Addr) (m l k : Nat) : Option Addr := if m = l then A else A.map (·.add (l * k))
theorem Rd.cutN {w : World} {A : Option Addr} {cs : List Value} (h : Rd w A cs) (m l n k : Nat) (hm : l + n ≤ m) : Rd w (cutN A m l k) ((cs.drop (l * k)).take (n * k)) := fun j u hu => by
  have hj := (List.getElem?_eq_some_iff.1 hu).1
  rw [List.length_take] at hj
  have hn : 0 < n * k := by omega
  have hn0 : 0 < n := Nat.pos_of_mul_pos_right hn
  rw [List.getElem?_take_of_lt (by omega), List.getElem?_drop] at hu
  obtain ⟨ad, ha, hc⟩ := h _ u hu
  unfold Go.Proofs.Ytdpcahfgdpikfaa.cutN
  rw [if_neg (by omega), ha]
  exact ⟨_, rfl, by rw [Addr.add_add]; exact hc⟩
theorem RdN.cut {w : World} {A : Option Addr} {k : Nat} {xs : List (List Value)} (h : RdN w A k xs) (m l n : Nat) (hm : l + n ≤ m) : RdN w (cutN A m l k) k ((xs.drop l).take n) := by
  have hd : ∀ x ∈ xs.drop l, x.length = k := fun x hx => h.len x (List.mem_of_mem_drop hx)
  refine ⟨?_, fun x hx => hd x (List.mem_of_mem_take hx)⟩
  have := h.rd.cutN m l n k hm
  rw [flat_drop l h.len, flat_take n hd] at this
  exact this
section
variable {P : Program} {ops : Array Oper} {Q : Exit → (Nat → Value) → World → Prop} {rest : List Oper} {e : Nat → Value} {w : World} {d : Tmp} {ty : TypeId} {pos : String} {aft : Array Edge}
theorem run_sliceN {t el : TypeId} {A : Option Addr} {n c sz : Nat} {lo hi mx : Option Operand} {lv hv mv : Int} (ht : P.underlying t = some (.slice el)) (hel : ElT P el sz)
    (hlo : bnd e lo 0 lv) (hhi : bnd e hi n hv) (hmx : bnd e mx c mv) (hmh : mx.isSome = true → hi.isSome = true) (hb : 0 ≤ lv ∧ lv ≤ hv ∧ hv ≤ mv ∧ mv ≤ c) :
    (Instr.sliceAt t (.slice A n c) (lo.map (ev e)) (hi.map (ev e)) (mx.map (ev e))).run P w = .ok (.slice (cutN A mv.toNat lv.toNat sz) (hv.toNat - lv.toNat) (mv.toNat - lv.toNat)) w := by
  have hs := hel.size
  obtain ⟨b0, b1, b2, b3⟩ := hb
  have hvn : ((hv.toNat : Nat) : Int) = hv := by omega
  have hmn : ((mv.toNat : Nat) : Int) = mv := by omega
  have key : (Instr.sliceBounds true n c (lo.map (ev e)) (hi.map (ev e)) (mx.map (ev e))).run P w = .ok (lv.toNat, hv.toNat, mv.toNat) w := by
    cases mx with
    | none =>
      simp only [bnd] at hmx
      subst hmx
      cases hi with
      | none =>
        simp only [bnd] at hhi
        subst hhi
        cases lo with
        | none => simp only [bnd] at hlo; subst hlo; simp [Instr.sliceBounds]
        | some lo =>
          obtain ⟨k, hlo⟩ := hlo
          simp [Instr.sliceBounds, run_bnd (P := P) (w := w) (y := n) (code := .sliceB) hlo ⟨b0, by omega⟩]
      | some hi =>
        obtain ⟨k, hhi⟩ := hhi
        have r1 := run_bnd (P := P) (w := w) (y := c) (code := .sliceAcap) hhi ⟨by omega, by omega⟩
        cases lo with
        | none => simp only [bnd] at hlo; subst hlo; simp [Instr.sliceBounds, r1]
        | some lo =>
          obtain ⟨k, hlo⟩ := hlo
          simp [Instr.sliceBounds, r1, run_bnd (P := P) (w := w) (y := hv.toNat) (code := .sliceB) hlo ⟨b0, by omega⟩]
    | some mx =>
      obtain ⟨k, hmx⟩ := hmx
      have r0 := run_bnd (P := P) (w := w) (y := c) (code := .slice3Acap) hmx ⟨by omega, by omega⟩
      cases hi with
      | none => simp at hmh
      | some hi =>
        obtain ⟨k, hhi⟩ := hhi
        have r1 := run_bnd (P := P) (w := w) (y := mv.toNat) (code := .slice3B) hhi ⟨by omega, by omega⟩
        cases lo with
        | none => simp only [bnd] at hlo; subst hlo; simp [Instr.sliceBounds, r0, r1]
        | some lo =>
          obtain ⟨k, hlo⟩ := hlo
          simp [Instr.sliceBounds, r0, r1, run_bnd (P := P) (w := w) (y := hv.toNat) (code := .slice3C) hlo ⟨b0, by omega⟩]
  cases hq : P.info? el with
  | none => simp [hq] at hs
  | some i =>
    have hsz : i.size = sz := by simpa [hq] using hs
    simp [Instr.sliceAt, Instr.slice, run_underlying ht, key, sizeOf, typeInfo, hq, hsz, cutN]
/-- A cut of a row that is only read: its place gets a name. -/
theorem OW_sliceN {x : Operand} {t el : TypeId} {A : Option Addr} {n c sz : Nat} {xs : List (List Value)} {lo hi mx : Option Operand} {lv hv mv : Int} (ht : P.underlying t = some (.slice el)) (hel : ElT P el sz) (hrd : RdN w A sz xs) (hx : ev e x = .slice A n c)
    (hlo : bnd e lo 0 lv) (hhi : bnd e hi n hv) (hmx : bnd e mx c mv) (hmh : mx.isSome = true → hi.isSome = true) (lN hN mN : Nat) (hl : lv = (lN : Int)) (hh : hv = (hN : Int)) (hm : mv = (mN : Int)) (hb : lN ≤ hN ∧ hN ≤ mN ∧ mN ≤ c)
    (h : ∀ A', RdN w A' sz ((xs.drop lN).take (hN - lN)) → (A' = none → A = none) → OW P ops Q rest (upd e d (.slice A' (hN - lN) (mN - lN))) w) : OW P ops Q (⟨some d, .slice t x lo hi mx, ty, pos, aft, none⟩ :: rest) e w := by
  subst hl; subst hh; subst hm
  refine OW_val _ rfl ?_ (h (cutN A mN lN sz) (hrd.cut mN lN (hN - lN) (by omega)) (fun ha => by
    unfold cutN at ha
    split at ha
    · exact ha
    · cases A with
      | none => rfl
      | some ad => cases ha))
  have := run_sliceN (P := P) (w := w) (A := A) ht hel hlo hhi hmx hmh (by omega)
  simp only [Int.toNat_natCast] at this
  simp [execOp, hx, this]
theorem OW_sliceHiN {x hi : Operand} {t el : TypeId} {A : Option Addr} {n c sz : Nat} {k : IntKind} {hv : Int} (ht : P.underlying t = some (.slice el)) (hel : ElT P el sz) (hx : ev e x = .slice A n c) (hhi : ev e hi = .int k hv) (hN : Nat) (hh : hv = (hN : Int)) (hb : hN ≤ c)
    (h : OW P ops Q rest (upd e d (.slice (cutN A c 0 sz) hN c)) w) : OW P ops Q (⟨some d, .slice t x none (some hi) none, ty, pos, aft, none⟩ :: rest) e w := by
  subst hh
  refine OW_val _ rfl ?_ h
  have := run_sliceN (P := P) (w := w) (A := A) (e := e) (n := n) (c := c) (lo := none) (hi := some hi) (mx := none) (lv := 0) (hv := (hN : Int)) (mv := (c : Int)) ht hel rfl ⟨_, hhi⟩ rfl (fun h => by cases h) (by omega)
  simp only [Int.toNat_natCast, Int.toNat_zero, Nat.sub_zero] at this
  simp [execOp, hx] at this ⊢
  rw [this]
  rfl
theorem OW_sliceLoN {x lo : Operand} {t el : TypeId} {A : Option Addr} {n c sz : Nat} {k : IntKind} {lv : Int} (lN : Nat) (ht : P.underlying t = some (.slice el)) (hel : ElT P el sz) (hx : ev e x = .slice A n c) (hlo : ev e lo = .int k lv) (hh : lv = (lN : Int)) (hb : lN ≤ n ∧ n ≤ c)
    (h : OW P ops Q rest (upd e d (.slice (cutN A c lN sz) (n - lN) (c - lN))) w) : OW P ops Q (⟨some d, .slice t x (some lo) none none, ty, pos, aft, none⟩ :: rest) e w := by
  subst hh
  refine OW_val _ rfl ?_ h
  have := run_sliceN (P := P) (w := w) (A := A) (e := e) (n := n) (c := c) (lo := some lo) (hi := none) (mx := none) (lv := (lN : Int)) (hv := (n : Int)) (mv := (c : Int)) ht hel ⟨_, hlo⟩ rfl rfl (fun h => by cases h) (by omega)
  simp only [Int.toNat_natCast] at this
  simp [execOp, hx] at this ⊢
  rw [this]
  rfl
/-- A row of cells that stands, and how long it is. -/
structure AtM (w : World) (ad : Addr) (cs : List Value) (n : Nat) : Prop where
  at_ : At w ad cs
  len : cs.length = n
theorem AtM.ext {w w' : World} {ad : Addr} {cs : List Value} {n : Nat} (h : AtM w ad cs n) (hx : Ext w w') : AtM w' ad cs n := ⟨fun j u hu => hx.cell' (h.at_ j u hu), h.len⟩
theorem OW_loadM {x : Operand} {t : TypeId} {n : Nat} {ad : Addr} {zs cs : List Value} (ht : AggT P t n zs) (hx : ev e x = .pointer (some ad)) (hc : AtM w ad cs n)
    (h : OW P ops Q rest (upd e d (.agg cs.toArray)) w) : OW P ops Q (⟨some d, .load t x, ty, pos, aft, none⟩ :: rest) e w := OW_loadX ht hx cs hc.len hc.at_ h
theorem OW_eqlSz {x : Operand} {t t' el : TypeId} {A : Option Addr} {n c : Nat} (ht : P.underlying t = some (.slice el)) (hx : ev e x = .slice A n c) (h : OW P ops Q rest (upd e d (.bool A.isNone)) w) : OW P ops Q (⟨some d, .binOp .eql t x (.const (.slice none 0 0)) t', ty, pos, aft, none⟩ :: rest) e w := by
  refine OW_val (.bool A.isNone) rfl ?_ h
  have hr : (Op.equal t (.slice A n c) (.slice none 0 0)).run P w = .ok A.isNone w := by
    have h : ∀ d, (Op.equalIn (d + 1) t (.slice A n c) (.slice none 0 0)).run P w = .ok A.isNone w := fun d => by cases A <;> simp [Op.equalIn, run_underlying ht]
    exact h 9999
  have hcn : ev e (.const (.slice none 0 0)) = .slice none 0 0 := rfl
  simp only [execOp, hx, hcn]
  show Sem.run P ((do eqGuard .eql t x (.const (.slice none 0 0)) (.slice A n c) (.slice none 0 0); binOp .eql t (.slice A n c) (.slice none 0 0)) >>= fun a => pure (Next.value a)) w = _
  rw [Sem.run_bind, run_eql_of rfl rfl hr]
  rfl
theorem OW_neqIF {x y : Operand} {t t' : TypeId} {k : IntKind} {a b : Int} (hx : ev e x = .int k a) (hy : ev e y = .int k b) (hab : a = b) (h : OW P ops Q rest (upd e d (.bool false)) w) : OW P ops Q (⟨some d, .binOp .neq t x y t', ty, pos, aft, none⟩ :: rest) e w := by
  refine OW_neq hx hy ?_
  rw [show (a != b) = false by simp [hab]]
  exact h
theorem OW_neqIT {x y : Operand} {t t' : TypeId} {k : IntKind} {a b : Int} (hx : ev e x = .int k a) (hy : ev e y = .int k b) (hab : ¬ a = b) (h : OW P ops Q rest (upd e d (.bool true)) w) : OW P ops Q (⟨some d, .binOp .neq t x y t', ty, pos, aft, none⟩ :: rest) e w := by
  refine OW_neq hx hy ?_
  rw [show (a != b) = true by simp [hab]]
  exact h
theorem OW_eqlIT {x y : Operand} {t t' : TypeId} {k : IntKind} {a b : Int} (hx : ev e x = .int k a) (hy : ev e y = .int k b) (hab : a = b) (h : OW P ops Q rest (upd e d (.bool true)) w) : OW P ops Q (⟨some d, .binOp .eql t x y t', ty, pos, aft, none⟩ :: rest) e w := by
  refine OW_eql hx hy ?_
  rw [show (a == b) = true by simp [hab]]
  exact h
theorem OW_neqQF {x y : Operand} {t t' : TypeId} {n : Nat} (hq : EqR P t n) {a b : List UInt8} (hx : ev e x = .agg (a.map bv).toArray) (hy : ev e y = .agg (b.map bv).toArray) (ha : a.length = n) (hab : a = b)
    (h : OW P ops Q rest (upd e d (.bool false)) w) : OW P ops Q (⟨some d, .binOp .neq t x y t', ty, pos, aft, none⟩ :: rest) e w := by
  refine OW_neqR hq hx hy ha (by rw [← hab]; exact ha) ?_
  rw [decide_eq_true hab]
  exact h
theorem OW_neqQT {x y : Operand} {t t' : TypeId} {n : Nat} (hq : EqR P t n) {a b : List UInt8} (hx : ev e x = .agg (a.map bv).toArray) (hy : ev e y = .agg (b.map bv).toArray) (ha : a.length = n) (hb : b.length = n) (hab : ¬ a = b)
    (h : OW P ops Q rest (upd e d (.bool true)) w) : OW P ops Q (⟨some d, .binOp .neq t x y t', ty, pos, aft, none⟩ :: rest) e w := by
  refine OW_neqR hq hx hy ha hb ?_
  rw [decide_eq_false hab]
  exact h
end
end Go.Proofs.Ytdpcahfgdpikfaa
