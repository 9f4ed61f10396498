/- Several texts in one, as they stand in wip/src. -/
import Derived.Test.YtdpomchhbbopbaaGr3
import Derived.Test.YtdpomchhbbopbaaGr4
import Derived.Test.YtdpomchhbbopbaaGr10
import Derived.Test.YtdpomchhbbopbaaGr13
/- Grants: their cells, what they are told as, whether two are the same. -/
namespace Go.Proofs.Ytdpomchhbbopbaa
open Go Go.RowKit Go.ChangeShapes Go.WideShapes
set_option linter.unusedVariables false
set_option maxRecDepth 4000
/-- A grant. -/
structure GD where
  rights : UInt8
  expiry : Int
  serial : Int
def gcells (g : GD) : List Value := [bv g.rights, .int .i64 g.expiry, .int .i64 g.serial]
def kGrant : KD Try.prog 37 GD where
  n := 3
  hn := by kernel_rfl
  R := fun w cs g => cs = gcells g ∧ I64 g.expiry ∧ I64 g.serial
  ext := fun hx h => h
  opn := fun {H enc w fuel cs x} h hw => by
    obtain ⟨hl, hp⟩ := kd_parts Try.underlying37 h hw
    have hl : cs.length = 3 := by rw [hl]; kernel_rfl
    obtain ⟨a0, h0⟩ := hp 0 _ rfl kB8
    obtain ⟨a1, h1, r1⟩ := hp 1 _ rfl kI
    obtain ⟨a2, h2, r2⟩ := hp 2 _ rfl kI
    have e0 : (cs.drop 0).take 1 = [bv a0] := h0
    have e1 : (cs.drop (0 + 1)).take 1 = [.int .i64 a1] := h1
    have e2 : (cs.drop (0 + 1 + 1)).take 1 = [.int .i64 a2] := h2
    have eN : cs.drop (0 + 1 + 1 + 1) = [] := List.drop_of_length_le (by omega)
    have := cut_cons cs 0 1
    rw [cut_cons cs (0 + 1) 1, cut_cons cs (0 + 1 + 1) 1, e0, e1, e2, eN, List.drop_zero] at this
    rw [this]
    refine ⟨⟨a0, a1, a2⟩, ?_, r1, r2⟩
    simp [gcells]
/-- From one number to another. -/
def inR (n least most : Int) : Bool := decide (least ≤ n) && decide (n ≤ most)
structure GOk (g : GD) : Prop where
  i : I64 g.expiry ∧ I64 g.serial
def litG (g : GD) : List Lit := [litB g.rights, litI g.expiry, litI g.serial]
theorem litG_inj {a b : GD} (h : litG a = litG b) : a = b := by
  unfold litG at h
  simp only [List.cons.injEq, and_true] at h
  obtain ⟨h1, h2, h3⟩ := h
  obtain ⟨a1, a2, a3⟩ := a
  obtain ⟨b1, b2, b3⟩ := b
  simp only at h1 h2 h3
  rw [litB_inj h1, litI_inj h2, litI_inj h3]
theorem gd_eqx : EqX Try.prog 37 := ⟨⟨2, by decide, by kernel_rfl⟩, by kernel_rfl⟩
theorem gd_cells : Program.cellsOf Try.prog 37 = 3 := by kernel_rfl
theorem gcells_length (g : GD) : (gcells g).length = 3 := rfl
theorem gcells_one (g : GD) : ∀ v ∈ gcells g, v.oneCell' = true := by
  intro v hv
  simp only [gcells, List.mem_cons, List.not_mem_nil, or_false] at hv
  rcases hv with rfl | rfl | rfl <;> rfl
theorem gd_lits {g : GD} (h : GOk g) : Try.prog.keyLits 3 37 (gcells g) = some (litG g) := by
  have := keyLits_fields (D := 2) (cs := gcells g) Try.underlying37 (by rw [gd_cells]; rfl) (by kernel_rfl) [[litB g.rights], [litI g.expiry], [litI g.serial]]
    (mapM_one (lit_u8 und_u8 (by kernel_rfl) rfl) (mapM_one (lit_int und_int (by kernel_rfl) rfl h.i.1) (mapM_one (lit_int und_int (by kernel_rfl) rfl h.i.2) mapM_none)))
  rw [this]
  simp [litG]
theorem gd_formed (g : GD) : (Value.agg (gcells g).toArray).formed Try.prog 37 = true := by
  simp [Value.formed, Try.underlying37, gd_cells, gcells]
theorem fldo_G0 : FldO Try.prog 37 0 0 := ⟨fun w a => by kernel_rfl⟩
theorem fldo_G1 : FldO Try.prog 37 1 1 := ⟨fun w a => by kernel_rfl⟩
theorem fldo_G2 : FldO Try.prog 37 2 2 := ⟨fun w a => by kernel_rfl⟩
theorem agg_Grant : AggT Try.prog 37 3 (gcells ⟨0, 0, 0⟩) := ⟨⟨_, Try.underlying37, rfl⟩, by kernel_rfl, fun w => by kernel_rfl⟩
section
variable {ops : Array Oper} {Q : Exit → (Nat → Value) → World → Prop} {rest : List Oper} {e : Nat → Value} {w : World} {d : Tmp} {ty : TypeId} {pos : String} {aft : Array Edge}
theorem OW_neqG {x y : Operand} {t' : TypeId} {a b : GD} (hx : ev e x = .agg (gcells a).toArray) (hy : ev e y = .agg (gcells b).toArray) (ha : GOk a) (hb : GOk b) (r : Bool) (hr : r = true ↔ a ≠ b) (h : OW Try.prog ops Q rest (upd e d (.bool r)) w) :
    OW Try.prog ops Q (⟨some d, .binOp .neq 37 x y t', ty, pos, aft, none⟩ :: rest) e w := by
  refine OW_neqX gd_eqx hx hy (gd_formed a) (gd_formed b) (gd_lits ha) (gd_lits hb) (fun q hq => ?_)
  have : (!q) = r := by
    rw [Bool.eq_iff_iff, hr, Bool.not_eq_true', ← Bool.not_eq_true, hq]
    exact ⟨fun hh e => hh (by rw [e]), fun hh e => hh (litG_inj e)⟩
  rw [this]
  exact h
theorem OW_eqlG {x y : Operand} {t' : TypeId} {a b : GD} (hx : ev e x = .agg (gcells a).toArray) (hy : ev e y = .agg (gcells b).toArray) (ha : GOk a) (hb : GOk b) (r : Bool) (hr : r = true ↔ a = b) (h : OW Try.prog ops Q rest (upd e d (.bool r)) w) :
    OW Try.prog ops Q (⟨some d, .binOp .eql 37 x y t', ty, pos, aft, none⟩ :: rest) e w := by
  refine OW_eqlX gd_eqx hx hy (gd_formed a) (gd_formed b) (gd_lits ha) (gd_lits hb) (fun q hq => ?_)
  have : q = r := by
    rw [Bool.eq_iff_iff, hr, hq]
    exact ⟨fun e => litG_inj e, fun e => by rw [e]⟩
  rw [this]
  exact h
end
end Go.Proofs.Ytdpomchhbbopbaa

/- Requests that come in: their cells, what they are in bytes; plainly: may one be, what is read. -/
namespace Go.Proofs.Ytdpomchhbbopbaa
open Go Go.RowKit Go.ChangeShapes Go.WideShapes
set_option linter.unusedVariables false
set_option maxRecDepth 4000
/-- A request. -/
structure QR where
  op : UInt8
  token : List UInt8
  key : List UInt8
  value : List UInt8
  old : List UInt8
  n : Int
  ten : Int
  keys : Int
  space : Int
  rights : UInt8
  expiry : Int
  serial : Int
def qcells (q : QR) (v : Value) : List Value := [bv q.op, v, stv q.key, stv q.value, stv q.old, .int .i64 q.n, .int .i64 q.ten, .int .i64 q.keys, .int .i64 q.space, bv q.rights, .int .i64 q.expiry, .int .i64 q.serial]
structure QI (q : QR) : Prop where
  i : I64 q.n ∧ I64 q.ten ∧ I64 q.keys ∧ I64 q.space ∧ I64 q.expiry ∧ I64 q.serial
  k : q.key.length ≤ 140737488351232 ∧ q.value.length ≤ 140737488351232 ∧ q.old.length ≤ 140737488351232
/-- A request's own data, behind its place. -/
structure QOk (w : World) (q : QR) (A : Option Addr) (c : Nat) : Prop where
  bs : Bs w A q.token
  cap : q.token.length ≤ c
  small : q.token.length ≤ 140737488351232
  i : QI q
theorem QOk.ext {w w' : World} {q : QR} {A : Option Addr} {c : Nat} (h : QOk w q A c) (hx : Ext w w') : QOk w' q A c := ⟨h.bs.ext hx, h.cap, h.small, h.i⟩
def kReq : KD Try.prog 39 QR where
  n := 12
  hn := by kernel_rfl
  R := fun w cs q => ∃ A c, cs = qcells q (.slice A q.token.length c) ∧ QOk w q A c
  ext := fun hx ⟨A, c, h1, h2⟩ => ⟨A, c, h1, h2.ext hx⟩
  opn := fun {H enc w fuel cs x} h hw => by
    obtain ⟨hl, hp⟩ := kd_parts Try.underlying39 h hw
    have hl : cs.length = 12 := by rw [hl]; kernel_rfl
    obtain ⟨a0, h0⟩ := hp 0 _ rfl kB8
    obtain ⟨a1, A, c, h1, ⟨r1, r1'⟩, b1⟩ := hp 1 _ rfl kBs
    obtain ⟨a2, h2, r2⟩ := hp 2 _ rfl kStL
    obtain ⟨a3, h3, r3⟩ := hp 3 _ rfl kStL
    obtain ⟨a4, h4, r4⟩ := hp 4 _ rfl kStL
    obtain ⟨a5, h5, r5⟩ := hp 5 _ rfl kI
    obtain ⟨a6, h6, r6⟩ := hp 6 _ rfl kI
    obtain ⟨a7, h7, r7⟩ := hp 7 _ rfl kI
    obtain ⟨a8, h8, r8⟩ := hp 8 _ rfl kI
    obtain ⟨a9, h9, r9, r9'⟩ := hp 9 _ rfl kGrant
    have e0 : (cs.drop 0).take 1 = [bv a0] := h0
    have e1 : (cs.drop (0 + 1)).take 1 = [.slice A a1.length c] := h1
    have e2 : (cs.drop (0 + 1 + 1)).take 1 = [stv a2] := h2
    have e3 : (cs.drop (0 + 1 + 1 + 1)).take 1 = [stv a3] := h3
    have e4 : (cs.drop (0 + 1 + 1 + 1 + 1)).take 1 = [stv a4] := h4
    have e5 : (cs.drop (0 + 1 + 1 + 1 + 1 + 1)).take 1 = [.int .i64 a5] := h5
    have e6 : (cs.drop (0 + 1 + 1 + 1 + 1 + 1 + 1)).take 1 = [.int .i64 a6] := h6
    have e7 : (cs.drop (0 + 1 + 1 + 1 + 1 + 1 + 1 + 1)).take 1 = [.int .i64 a7] := h7
    have e8 : (cs.drop (0 + 1 + 1 + 1 + 1 + 1 + 1 + 1 + 1)).take 1 = [.int .i64 a8] := h8
    have e9 : (cs.drop (0 + 1 + 1 + 1 + 1 + 1 + 1 + 1 + 1 + 1)).take 3 = gcells a9 := h9
    have eN : cs.drop (0 + 1 + 1 + 1 + 1 + 1 + 1 + 1 + 1 + 1 + 3) = [] := List.drop_of_length_le (by omega)
    have := cut_cons cs 0 1
    rw [cut_cons cs (0 + 1) 1, cut_cons cs (0 + 1 + 1) 1, cut_cons cs (0 + 1 + 1 + 1) 1, cut_cons cs (0 + 1 + 1 + 1 + 1) 1, cut_cons cs (0 + 1 + 1 + 1 + 1 + 1) 1, cut_cons cs (0 + 1 + 1 + 1 + 1 + 1 + 1) 1, cut_cons cs (0 + 1 + 1 + 1 + 1 + 1 + 1 + 1) 1, cut_cons cs (0 + 1 + 1 + 1 + 1 + 1 + 1 + 1 + 1) 1, cut_cons cs (0 + 1 + 1 + 1 + 1 + 1 + 1 + 1 + 1 + 1) 3, e0, e1, e2, e3, e4, e5, e6, e7, e8, e9, eN, List.drop_zero] at this
    rw [this]
    refine ⟨⟨a0, a1, a2, a3, a4, a5, a6, a7, a8, a9.rights, a9.expiry, a9.serial⟩, A, c, ?_, b1, r1, Nat.le_trans r1 r1', ⟨r5, r6, r7, r8, r9, r9'⟩, r2, r3, r4⟩
    simp [qcells, gcells]
def grant0 (q : QR) : Bool := q.rights == 0 && q.expiry == 0 && q.serial == 0
def room0 (q : QR) : Bool := q.keys == 0 && q.space == 0
def keyOk (q : QR) : Bool := inR q.key.length 1 24
/-- May a request be? Of its operation; its token is short enough. -/
def mayO (q : QR) : Bool :=
  if q.op = 1 ∨ q.op = 4 then keyOk q && (q.value == []) && (q.old == []) && (q.n == 0) && (q.ten == 0) && room0 q && grant0 q
  else if q.op = 2 then keyOk q && decide ((q.value.length : Int) ≤ 64) && (q.old == []) && (q.n == 0) && (q.ten == 0) && room0 q && grant0 q
  else if q.op = 3 then keyOk q && decide ((q.value.length : Int) ≤ 64) && decide ((q.old.length : Int) ≤ 64) && (q.n == 0) && (q.ten == 0) && room0 q && grant0 q
  else if q.op = 5 then decide ((q.key.length : Int) ≤ 24) && (q.value == []) && (q.old == []) && inR q.n 1 16 && (q.ten == 0) && room0 q && grant0 q
  else if q.op = 6 ∨ q.op = 7 then (q.key == []) && (q.value == []) && (q.old == []) && (q.n == 0) && inR q.ten 1 8 && inR q.keys 0 65536 && inR q.space 0 65536 && grant0 q
  else if q.op = 8 then (q.key == []) && (q.value == []) && (q.old == []) && (q.n == 0) && inR q.ten 0 8 && room0 q && inR q.rights.toNat 1 15 && inR q.expiry 0 1099511627776 && (q.serial == 0)
  else if q.op = 9 then (q.key == []) && (q.value == []) && (q.old == []) && inR q.n 0 65536 && inR q.ten 0 8 && room0 q && grant0 q
  else if q.op = 10 then (q.key == []) && (q.value == []) && (q.old == []) && inR q.n 0 65536 && (q.ten == 0) && room0 q && grant0 q
  else false
def mayQ (q : QR) : Bool := decide (q.token.length ≤ 256) && mayO q
/-- A request's form, in pieces. -/
def reqP (q : QR) : List (List UInt8) := [[q.op], putL q.token.length 4, q.token, putL q.key.length 4, q.key, putL q.value.length 4, q.value, putL q.old.length 4, q.old, putL (u64N q.n) 8, putL (u64N q.ten) 8, putL (u64N q.keys) 8, putL (u64N q.space) 8, [q.rights], putL (u64N q.expiry) 8, putL (u64N q.serial) 8]
def reqF (q : QR) : List UInt8 := (reqP q).flatten
theorem reqF_len (q : QR) : (reqF q).length = 66 + q.token.length + q.key.length + q.value.length + q.old.length := by
  unfold reqF reqP
  simp only [List.flatten_cons, List.flatten_nil, List.append_nil, List.length_append, putL_length, List.length_cons, List.length_nil]
  omega
theorem may_lens {q : QR} (h : mayQ q = true) : q.token.length ≤ 256 ∧ q.key.length ≤ 24 ∧ q.value.length ≤ 64 ∧ q.old.length ≤ 64 := by
  unfold mayQ at h
  rw [Bool.and_eq_true] at h
  have h1 := of_decide_eq_true h.1
  have h2 := h.2
  have l0 : ∀ l : List UInt8, l = [] → l.length = 0 := fun l h => by rw [h]; rfl
  refine ⟨h1, ?_⟩
  unfold mayO keyOk inR at h2
  repeat' split at h2
  all_goals first | (simp only [Bool.and_eq_true, decide_eq_true_eq, beq_iff_eq] at h2) | (cases h2)
  · have := l0 _ h2.1.1.1.1.1.2; have := l0 _ h2.1.1.1.1.2; omega
  · have := l0 _ h2.1.1.1.1.2; omega
  · omega
  · have := l0 _ h2.1.1.1.1.1.2; have := l0 _ h2.1.1.1.1.2; omega
  · have := l0 _ h2.1.1.1.1.1.1.1; have := l0 _ h2.1.1.1.1.1.1.2; have := l0 _ h2.1.1.1.1.1.2; omega
  · have := l0 _ h2.1.1.1.1.1.1.1.1; have := l0 _ h2.1.1.1.1.1.1.1.2; have := l0 _ h2.1.1.1.1.1.1.2; omega
  · have := l0 _ h2.1.1.1.1.1.1; have := l0 _ h2.1.1.1.1.1.2; have := l0 _ h2.1.1.1.1.2; omega
  · have := l0 _ h2.1.1.1.1.1.1; have := l0 _ h2.1.1.1.1.1.2; have := l0 _ h2.1.1.1.1.2; omega
/-- A request that is read; the reader behind it. -/
def q2 (b : List UInt8) : ST := bytesS (s1 (b, 0))
def q5 (b : List UInt8) : ST := bytesS (bytesS (bytesS (q2 b)))
def q9 (b : List UInt8) : ST := s8 (s8 (s8 (s8 (q5 b))))
def readRq (b : List UInt8) : QR := ⟨rdB (b, 0), bytesV (s1 (b, 0)), bytesV (q2 b), bytesV (bytesS (q2 b)), bytesV (bytesS (bytesS (q2 b))), rdI (q5 b), rdI (s8 (q5 b)), rdI (s8 (s8 (q5 b))), rdI (s8 (s8 (s8 (q5 b)))), rdB (q9 b), rdI (s1 (q9 b)), rdI (s8 (s1 (q9 b)))⟩
def endRq (b : List UInt8) : ST := s8 (s8 (s1 (q9 b)))
def q0 : QR := ⟨0, [], [], [], [], 0, 0, 0, 0, 0, 0, 0⟩
def goodQ (b : List UInt8) : Bool := decide (endE (endRq b) = 0) && mayQ (readRq b)
/-- What Parse tells. -/
def parQ (b : List UInt8) : QR := if decide (b.length ≤ 1024) && goodQ b then readRq b else q0
def parQE (b : List UInt8) : Int := if b.length ≤ 1024 then (if goodQ b then 0 else 150) else 3
theorem eats_rq (b : List UInt8) : Eats (b, 0) (endRq b) (reqF (readRq b)) := by
  have h := (((((((((((eats_B (b, 0)).trans (eats_X _)).trans (eats_X (q2 b))).trans (eats_X _)).trans (eats_X _)).trans (eats_I (q5 b))).trans (eats_I _)).trans (eats_I _)).trans (eats_I _)).trans (eats_B (q9 b))).trans (eats_I _)).trans (eats_I (s8 (s1 (q9 b))))
  have e : reqF (readRq b) = [rdB (b, 0)] ++ (putL (bytesV (s1 (b, 0))).length 4 ++ bytesV (s1 (b, 0))) ++ (putL (bytesV (q2 b)).length 4 ++ bytesV (q2 b)) ++ (putL (bytesV (bytesS (q2 b))).length 4 ++ bytesV (bytesS (q2 b))) ++ (putL (bytesV (bytesS (bytesS (q2 b)))).length 4 ++ bytesV (bytesS (bytesS (q2 b)))) ++ putL (u64N (rdI (q5 b))) 8 ++ putL (u64N (rdI (s8 (q5 b)))) 8 ++ putL (u64N (rdI (s8 (s8 (q5 b))))) 8 ++ putL (u64N (rdI (s8 (s8 (s8 (q5 b)))))) 8 ++ [rdB (q9 b)] ++ putL (u64N (rdI (s1 (q9 b)))) 8 ++ putL (u64N (rdI (s8 (s1 (q9 b))))) 8 := by
    simp [reqF, reqP, readRq]
  rw [e]
  exact h
theorem goodQ_back {b : List UInt8} (h : goodQ b = true) : mayQ (readRq b) = true ∧ reqF (readRq b) = b := by
  unfold goodQ at h
  rw [Bool.and_eq_true, decide_eq_true_eq, endE_zero] at h
  obtain ⟨⟨h1, h2⟩, h3⟩ := h
  obtain ⟨_, h5⟩ := eats_rq b h1
  rw [h2, List.append_nil] at h5
  exact ⟨h3, h5.symm⟩
theorem req_split (q : QR) (r : List UInt8) : reqF q ++ r = [q.op] ++ (putL q.token.length 4 ++ (q.token ++ (putL q.key.length 4 ++ (q.key ++ (putL q.value.length 4 ++ (q.value ++ (putL q.old.length 4 ++ (q.old ++ (putL (u64N q.n) 8 ++ (putL (u64N q.ten) 8 ++ (putL (u64N q.keys) 8 ++ (putL (u64N q.space) 8 ++ ([q.rights] ++ (putL (u64N q.expiry) 8 ++ (putL (u64N q.serial) 8 ++ r))))))))))))))) := by
  simp [reqF, reqP]
theorem req_ok {q : QR} (hm : mayQ q = true) (hi : QI q) (r : List UInt8) : readRq (reqF q ++ r) = q ∧ endRq (reqF q ++ r) = (r, 0) := by
  obtain ⟨l1, l2, l3, l4⟩ := may_lens hm
  obtain ⟨i1, i2, i3, i4, i5, i6⟩ := hi.i
  have b1 : ∀ r, bytesV (putL q.token.length 4 ++ (q.token ++ r), 0) = q.token ∧ bytesS (putL q.token.length 4 ++ (q.token ++ r), 0) = (r, 0) := fun r => bytes_ok (by omega)
  have b2 : ∀ r, bytesV (putL q.key.length 4 ++ (q.key ++ r), 0) = q.key ∧ bytesS (putL q.key.length 4 ++ (q.key ++ r), 0) = (r, 0) := fun r => bytes_ok (by omega)
  have b3 : ∀ r, bytesV (putL q.value.length 4 ++ (q.value ++ r), 0) = q.value ∧ bytesS (putL q.value.length 4 ++ (q.value ++ r), 0) = (r, 0) := fun r => bytes_ok (by omega)
  have b4 : ∀ r, bytesV (putL q.old.length 4 ++ (q.old ++ r), 0) = q.old ∧ bytesS (putL q.old.length 4 ++ (q.old ++ r), 0) = (r, 0) := fun r => bytes_ok (by omega)
  unfold readRq endRq q9 q5 q2
  rw [req_split, rdB_ok.1, rdB_ok.2, (b1 _).1, (b1 _).2, (b2 _).1, (b2 _).2, (b3 _).1, (b3 _).2, (b4 _).1, (b4 _).2, (rdI_ok i1).1, (rdI_ok i1).2, (rdI_ok i2).1, (rdI_ok i2).2, (rdI_ok i3).1, (rdI_ok i3).2, (rdI_ok i4).1, (rdI_ok i4).2, rdB_ok.1, rdB_ok.2, (rdI_ok i5).1, (rdI_ok i5).2, (rdI_ok i6).1, (rdI_ok i6).2]
  exact ⟨rfl, rfl⟩
theorem good_req {q : QR} (hm : mayQ q = true) (hi : QI q) : goodQ (reqF q) = true ∧ readRq (reqF q) = q ∧ (reqF q).length ≤ 474 := by
  obtain ⟨l1, l2, l3, l4⟩ := may_lens hm
  have h := req_ok hm hi []
  rw [List.append_nil] at h
  refine ⟨?_, h.1, by rw [reqF_len]; omega⟩
  unfold goodQ
  rw [h.1, h.2, hm]
  rfl
theorem good_behind {q : QR} (hm : mayQ q = true) (hi : QI q) {r : List UInt8} (hr : r ≠ []) : goodQ (reqF q ++ r) = false := by
  unfold goodQ
  rw [(req_ok hm hi r).2]
  have : ¬ endE (r, 0) = 0 := fun h => hr (endE_zero.1 h).2
  rw [decide_eq_false this]
  rfl
theorem good_cut {q : QR} (hm : mayQ q = true) {m : Nat} (h : m < (reqF q).length) : goodQ ((reqF q).take m) = false := by
  obtain ⟨l1, l2, l3, l4⟩ := may_lens hm
  have c0 : Cut (reqF q) ((reqF q).take m, 0) := .inr ⟨m, h, rfl⟩
  obtain ⟨b, hb⟩ : ∃ b, (reqF q).take m = b := ⟨_, rfl⟩
  rw [hb] at c0 ⊢
  have hs : reqF q = [q.op] ++ (putL q.token.length 4 ++ q.token ++ (putL q.key.length 4 ++ q.key ++ (putL q.value.length 4 ++ q.value ++ (putL q.old.length 4 ++ q.old ++ (putL (u64N q.n) 8 ++ (putL (u64N q.ten) 8 ++ (putL (u64N q.keys) 8 ++ (putL (u64N q.space) 8 ++ ([q.rights] ++ (putL (u64N q.expiry) 8 ++ (putL (u64N q.serial) 8 ++ []))))))))))) := by simp [reqF, reqP]
  rw [hs] at c0
  have cE : Cut [] (endRq b) := ((((((((((c0.byte.text (by omega)).text (by omega)).text (by omega)).text (by omega)).int).int).int).int).byte).int).int
  unfold goodQ
  rw [cE.end_]
  rfl
end Go.Proofs.Ytdpomchhbbopbaa

/- Walks: what request asks of a request: its small functions and closures. -/
namespace Go.Proofs.Ytdpomchhbbopbaa
open Go Go.RowKit
set_option linter.unusedVariables false
set_option maxRecDepth 4000
theorem go_ReqC {A B : Prop} (h : Held B → A := by
  intro hEnd
  repeat (first | refine OW_fieldBL fldo_Q0 rfl ?_ | refine OW_fieldBL fldo_Q1 rfl ?_ | refine OW_fieldBL fldo_Q2 rfl ?_ | refine OW_fieldBL fldo_Q3 rfl ?_ | refine OW_fieldBL fldo_Q4 rfl ?_ | refine OW_fieldBL fldo_Q5 rfl ?_ | refine OW_fieldBL fldo_Q6 rfl ?_ | refine OW_fieldBL fldo_Q7 rfl ?_ | refine OW_fieldBL fldo_Q8 rfl ?_ | refine OW_fieldBL fldo_Q9 rfl ?_ | refine OW_fieldG fldo_G0 rfl ?_ | refine OW_fieldG fldo_G1 rfl ?_ | refine OW_fieldG fldo_G2 rfl ?_ | refine OW_fieldBL fldo_G0 rfl ?_ | refine OW_fieldBL fldo_G1 rfl ?_ | refine OW_fieldBL fldo_G2 rfl ?_ | refine OW_nilCheck rfl ?_ | refine OW_lenL und_string rfl ?_ | refine OW_eqlE rfl rfl ?_ | refine OW_moveV (.int _ _) rfl ?_ | refine OW_moveV (.slice _ _ _) rfl ?_ | refine OW_moveV (.bool _) rfl ?_ | refine OW_moveV (.pointer _) rfl ?_ | refine OW_moveV (.string _) rfl ?_ | refine OW_moveV (.agg _) rfl ?_ | refine OW_moveV (.tuple _) rfl ?_ | refine OW_nil ?_ | refine thenE_normal ?_ | refine CW_seq ?_ | refine CW_region (by kernel_rfl) ?_ | refine OW_assignV (.int _ _) rfl ?_ | refine OW_assignV (.slice _ _ _) rfl ?_ | refine OW_assignV (.bool _) rfl ?_ | refine OW_assignV (.pointer _) rfl ?_ | refine OW_assignV (.string _) rfl ?_ | refine OW_assignV (.agg _) rfl ?_ | refine OW_assignV (.tuple _) rfl ?_ | refine OW_addI rfl rfl (by omega) ?_ | refine OW_subI rfl rfl (by omega) ?_ | refine OW_mulI rfl rfl (by omega) ?_ | refine OW_lss rfl rfl ?_ | refine OW_extract rfl rfl ?_ | refine OW_gtr rfl rfl ?_ | refine OW_leq rfl rfl ?_ | refine OW_geq rfl rfl ?_ | refine OW_eql rfl rfl ?_ | refine OW_neq rfl rfl ?_ | refine OW_not rfl ?_ | refine OW_pickT rfl _ rfl ?_ | refine OW_pickF rfl (.bool _) rfl ?_ | refine OW_pickB rfl rfl rfl ?_ | refine OW_move ?_ | refine OW_assign ?_ | refine OW_pass rfl ?_ | refine OW_take rfl ?_ | refine OW_lenS (by first | with_reducible exact und_bytes | with_reducible exact und_bytess) rfl ?_ | refine OW_convInt (by first | with_reducible exact und_u8 | with_reducible exact und_u64 | with_reducible exact und_int | with_reducible exact und_u32) (by first | with_reducible exact und_u8 | with_reducible exact und_u64 | with_reducible exact und_int | with_reducible exact und_u32) rfl ?_ | refine OW_add rfl rfl ?_ | refine OW_sub rfl rfl ?_ | refine OW_mul rfl rfl ?_ | refine OW_min2 rfl rfl ?_ | refine OW_max2 rfl rfl ?_ | refine OW_neg rfl ?_ | refine CW_block ?_ | refine CW_condT rfl ?_ | refine CW_condF rfl ?_ | refine CW_exit ?_ | refine CW_ret ?_ | refine CW_skip ?_ | refine LW_seq ?_ | refine LW_regC ?_ | refine LW_condC ?_ | refine LW_regF ?_ | refine LW_condF ?_ | refine FW_seq ?_ | refine FW_region (by kernel_rfl) ?_ | refine FW_block ?_ | refine FW_condT rfl ?_ | refine FW_condF rfl ?_ | refine FW_exit ?_ | refine FW_ret ?_ | refine FW_skip ?_ | refine LW_ret ?_ | refine LW_skip ?_ | refine thenE_exit ?_ | refine thenE_ret ?_ | refine inBlockE_normal ?_ | refine inBlockE_same ?_ | refine inBlockE_ret ?_ | refine inBlockE_ne (by rfl) ?_ | refine OW_eqlB (by with_reducible exact und_bool) rfl rfl ?_ | refine OW_neqB (by with_reducible exact und_bool) rfl rfl ?_ | refine OW_idxS (by with_reducible exact und_bytes) one_u8 rfl rfl _ rfl (by omega) ?_ | refine OW_idxS (by with_reducible exact und_bytess) one_bytes rfl rfl _ rfl (by omega) ?_ | refine OW_load1 (by first | with_reducible exact one_u8 | with_reducible exact one_bytes) rfl _ (by assumption) ?_ | (refine OW_isLoad ?_; refine OW_loadBk (by first | with_reducible exact one_u8 | with_reducible exact one_int | with_reducible exact one_str | with_reducible exact one_bytes) rfl (by assumption) _ (by rfl) ?_))
  exact hEnd.out) (k : B) : A := h ⟨k⟩
section
variable {P : Program} {ops : Array Oper} {Q : Exit → (Nat → Value) → World → Prop} {rest : List Oper} {e : Nat → Value} {w : World} {d : Tmp} {ty : TypeId} {pos : String} {aft : Array Edge}
theorem OW_fieldG {x : Operand} {t : TypeId} {g f o : Nat} (hr : FldO P t f o) (hx : ev e x = .pointer (some ⟨g, 9, none⟩))
    (h : OW P ops Q rest (upd e d (.pointer (some ⟨g, 9 + o, none⟩))) w) : OW P ops Q (⟨some d, .fieldAddr t x f, ty, pos, aft, none⟩ :: rest) e w :=
  OW_fieldO hr hx (by rw [addr_add_off]; exact h)
theorem OW_eqlE {x y : Operand} {t t' : TypeId} {l : List UInt8} (hx : ev e x = stv l) (hy : ev e y = .string ⟨#[]⟩) (h : OW P ops Q rest (upd e d (.bool (l == []))) w) : OW P ops Q (⟨some d, .binOp .eql t x y t', ty, pos, aft, none⟩ :: rest) e w := by
  refine OW_eqlS hx hy ?_
  have : decide ((⟨l.toArray⟩ : ByteArray) = ⟨#[]⟩) = (l == []) := by
    rw [Bool.eq_iff_iff, decide_eq_true_iff, beq_iff_eq]
    constructor
    · intro h
      injection h with h
      simpa using h
    · rintro rfl
      rfl
  rw [this]
  exact h
end
theorem fldo_Q0 : FldO Try.prog 39 0 0 := ⟨fun w a => by kernel_rfl⟩
theorem fldo_Q1 : FldO Try.prog 39 1 1 := ⟨fun w a => by kernel_rfl⟩
theorem fldo_Q2 : FldO Try.prog 39 2 2 := ⟨fun w a => by kernel_rfl⟩
theorem fldo_Q3 : FldO Try.prog 39 3 3 := ⟨fun w a => by kernel_rfl⟩
theorem fldo_Q4 : FldO Try.prog 39 4 4 := ⟨fun w a => by kernel_rfl⟩
theorem fldo_Q5 : FldO Try.prog 39 5 5 := ⟨fun w a => by kernel_rfl⟩
theorem fldo_Q6 : FldO Try.prog 39 6 6 := ⟨fun w a => by kernel_rfl⟩
theorem fldo_Q7 : FldO Try.prog 39 7 7 := ⟨fun w a => by kernel_rfl⟩
theorem fldo_Q8 : FldO Try.prog 39 8 8 := ⟨fun w a => by kernel_rfl⟩
theorem fldo_Q9 : FldO Try.prog 39 9 9 := ⟨fun w a => by kernel_rfl⟩
theorem agg_Req : AggT Try.prog 39 12 (qcells q0 (.slice none 0 0)) := ⟨⟨_, Try.underlying39, rfl⟩, by kernel_rfl, fun w => by kernel_rfl⟩
theorem qcells_one (q : QR) (A : Option Addr) (n c : Nat) : ∀ v ∈ qcells q (.slice A n c), v.oneCell' = true := by
  intro v hv
  simp only [qcells, List.mem_cons, List.not_mem_nil, or_false] at hv
  rcases hv with rfl | rfl | rfl | rfl | rfl | rfl | rfl | rfl | rfl | rfl | rfl | rfl <;> rfl
/-- What an operation asks of a request's own fields. -/
def fine1 (q : QR) : Bool := keyOk q && decide ((q.value.length : Int) ≤ 64)
def fine2 (q : QR) : Bool := inR q.ten 1 8 && inR q.keys 0 65536 && inR q.space 0 65536
def fine6 (q : QR) : Bool := fine1 q && decide ((q.old.length : Int) ≤ 64)
def fine8 (q : QR) : Bool := decide ((q.key.length : Int) ≤ 24) && inR q.n 1 16
def fine10 (q : QR) : Bool := inR q.ten 0 8 && inR q.rights.toNat 1 15 && inR q.expiry 0 1099511627776 && (q.serial == 0)
def fine12 (q : QR) : Bool := inR q.ten 0 8 && inR q.n 0 65536
def fine14 (q : QR) : Bool := inR q.n 0 65536
def bareQ (q : QR) : Bool := (q.key == []) && (q.value == []) && (q.old == []) && (q.n == 0) && (q.ten == 0) && (q.keys == 0) && (q.space == 0) && grant0 q
set_option maxHeartbeats 8000000 in
theorem within_any (w : World) (n l m : Int) : Calls Try.prog 101 #[.int .i64 n, .int .i64 l, .int .i64 m] w (RetV w (.bool (inR n l m))) := by
  refine calls_of_CW Try.func101 rfl (by simp [Try.ntmps101]) ?_
  rw [Try.ntmps101]
  refine go_ReqC (k := ?_)
  refine OW_split 10 _ rfl (fun h1 => ?_) (fun h1 => ?_)
  rotate_left 1
  · refine go_ReqC (k := ?_)
    exact bodyE_ret1 rfl (.bool false) rfl ⟨by unfold inR; rw [h1]; rfl, Ext.rfl' w⟩
  refine go_ReqC (k := ?_)
  exact bodyE_ret1 rfl (.bool _) rfl ⟨by unfold inR; rw [h1]; rfl, Ext.rfl' w⟩
set_option maxHeartbeats 8000000 in
theorem refIn_any (w : World) (n l m : Int) : Calls Try.prog 64 #[.int .i64 n, .int .i64 l, .int .i64 m] w (RetV w (.bool (inR n l m))) := by
  refine calls_of_CW Try.func64 rfl (by simp [Try.ntmps64]) ?_
  rw [Try.ntmps64]
  refine go_ReqC (k := ?_)
  refine OW_split 10 _ rfl (fun h1 => ?_) (fun h1 => ?_)
  rotate_left 1
  · refine go_ReqC (k := ?_)
    exact bodyE_ret1 rfl (.bool false) rfl ⟨by unfold inR; rw [h1]; rfl, Ext.rfl' w⟩
  refine go_ReqC (k := ?_)
  exact bodyE_ret1 rfl (.bool _) rfl ⟨by unfold inR; rw [h1]; rfl, Ext.rfl' w⟩
set_option maxHeartbeats 8000000 in
theorem key_any (w : World) (A : Option Addr) (c : Nat) (q : QR) : Calls Try.prog 98 #[.agg (qcells q (.slice A q.token.length c)).toArray] w (RetV w (.bool (keyOk q))) := by
  refine calls_of_CW Try.func98 rfl (by simp [Try.ntmps98]) ?_
  rw [Try.ntmps98]
  refine go_ReqC (k := ?_)
  refine OW_box _ rfl ?_
  intro w1 g hb hg hlt hx1
  have hb1 : Blk w1 g 39 (qcells q (.slice A q.token.length c)).toArray := hb
  clear hb
  have hx01 := hx1
  refine go_ReqC (k := ?_)
  refine OW_split 7 _ rfl (fun h1 => ?_) (fun h1 => ?_)
  rotate_left 1
  · refine go_ReqC (k := ?_)
    exact bodyE_ret1 rfl (.bool false) rfl ⟨by unfold keyOk inR; rw [h1]; rfl, hx01⟩
  refine go_ReqC (k := ?_)
  exact bodyE_ret1 rfl (.bool _) rfl ⟨by unfold keyOk inR; rw [h1]; rfl, hx01⟩
set_option maxHeartbeats 8000000 in
theorem tenant_any (w : World) (A : Option Addr) (c : Nat) (q : QR) : Calls Try.prog 100 #[.agg (qcells q (.slice A q.token.length c)).toArray] w (RetV w (.bool (inR q.ten 1 8))) := by
  refine calls_of_CW Try.func100 rfl (by simp [Try.ntmps100]) ?_
  rw [Try.ntmps100]
  refine go_ReqC (k := ?_)
  refine OW_box _ rfl ?_
  intro w1 g hb hg hlt hx1
  have hb1 : Blk w1 g 39 (qcells q (.slice A q.token.length c)).toArray := hb
  clear hb
  have hx01 := hx1
  refine go_ReqC (k := ?_)
  refine OW_callV Try.func101 (by kernel_rfl) rfl (within_any w1 q.ten 1 8) rfl ?_
  intro w2 hx2
  have hb2 := hb1.ext hx2
  have hx02 := hx01.trans' hx2
  clear hb1
  refine go_ReqC (k := ?_)
  exact bodyE_ret1 rfl (.bool _) rfl ⟨rfl, hx02⟩
set_option maxHeartbeats 8000000 in
theorem anyone_any (w : World) (A : Option Addr) (c : Nat) (q : QR) : Calls Try.prog 110 #[.agg (qcells q (.slice A q.token.length c)).toArray] w (RetV w (.bool (inR q.ten 0 8))) := by
  refine calls_of_CW Try.func110 rfl (by simp [Try.ntmps110]) ?_
  rw [Try.ntmps110]
  refine go_ReqC (k := ?_)
  refine OW_box _ rfl ?_
  intro w1 g hb hg hlt hx1
  have hb1 : Blk w1 g 39 (qcells q (.slice A q.token.length c)).toArray := hb
  clear hb
  have hx01 := hx1
  refine go_ReqC (k := ?_)
  refine OW_callV Try.func101 (by kernel_rfl) rfl (within_any w1 q.ten 0 8) rfl ?_
  intro w2 hx2
  have hb2 := hb1.ext hx2
  have hx02 := hx01.trans' hx2
  clear hb1
  refine go_ReqC (k := ?_)
  exact bodyE_ret1 rfl (.bool _) rfl ⟨rfl, hx02⟩
set_option maxHeartbeats 8000000 in
theorem shp1_any (w : World) (A : Option Addr) (c : Nat) (q : QR) : Calls Try.prog 97 #[.agg (qcells q (.slice A q.token.length c)).toArray] w (RetV w (.bool (fine1 q))) := by
  refine calls_of_CW Try.func97 rfl (by simp [Try.ntmps97]) ?_
  rw [Try.ntmps97]
  refine go_ReqC (k := ?_)
  refine OW_box _ rfl ?_
  intro w1 g hb hg hlt hx1
  have hb1 : Blk w1 g 39 (qcells q (.slice A q.token.length c)).toArray := hb
  clear hb
  have hx01 := hx1
  refine go_ReqC (k := ?_)
  refine OW_loadX agg_Req rfl (qcells q (.slice A q.token.length c)) rfl hb1.atL ?_
  refine go_ReqC (k := ?_)
  refine OW_callV Try.func98 (by kernel_rfl) rfl (key_any w1 A c q) rfl ?_
  intro w2 hx2
  have hb2 := hb1.ext hx2
  have hx02 := hx01.trans' hx2
  clear hb1
  refine go_ReqC (k := ?_)
  refine OW_split 5 _ rfl (fun h1 => ?_) (fun h1 => ?_)
  rotate_left 1
  · refine go_ReqC (k := ?_)
    exact bodyE_ret1 rfl (.bool false) rfl ⟨by unfold fine1; rw [h1]; rfl, hx02⟩
  refine go_ReqC (k := ?_)
  exact bodyE_ret1 rfl (.bool _) rfl ⟨by unfold fine1; rw [h1]; rfl, hx02⟩
set_option maxHeartbeats 8000000 in
theorem shp2_any (w : World) (A : Option Addr) (c : Nat) (q : QR) : Calls Try.prog 99 #[.agg (qcells q (.slice A q.token.length c)).toArray] w (RetV w (.bool (fine2 q))) := by
  refine calls_of_CW Try.func99 rfl (by simp [Try.ntmps99]) ?_
  rw [Try.ntmps99]
  refine go_ReqC (k := ?_)
  refine OW_box _ rfl ?_
  intro w1 g hb hg hlt hx1
  have hb1 : Blk w1 g 39 (qcells q (.slice A q.token.length c)).toArray := hb
  clear hb
  have hx01 := hx1
  refine go_ReqC (k := ?_)
  refine OW_loadX agg_Req rfl (qcells q (.slice A q.token.length c)) rfl hb1.atL ?_
  refine go_ReqC (k := ?_)
  refine OW_callV Try.func100 (by kernel_rfl) rfl (tenant_any w1 A c q) rfl ?_
  intro w2 hx2
  have hb2 := hb1.ext hx2
  have hx02 := hx01.trans' hx2
  clear hb1
  refine go_ReqC (k := ?_)
  refine OW_split 5 _ rfl (fun h1 => ?_) (fun h1 => ?_)
  rotate_left 1
  · refine go_ReqC (k := ?_)
    exact bodyE_ret1 rfl (.bool false) rfl ⟨by unfold fine2; rw [h1]; rfl, hx02⟩
  refine go_ReqC (k := ?_)
  refine OW_callV Try.func101 (by kernel_rfl) rfl (within_any w2 q.keys 0 65536) rfl ?_
  intro w3 hx3
  have hb3 := hb2.ext hx3
  have hx03 := hx02.trans' hx3
  clear hb2
  refine go_ReqC (k := ?_)
  refine OW_split 10 _ rfl (fun h2 => ?_) (fun h2 => ?_)
  rotate_left 1
  · refine go_ReqC (k := ?_)
    exact bodyE_ret1 rfl (.bool false) rfl ⟨by unfold fine2; rw [h1, h2]; rfl, hx03⟩
  refine go_ReqC (k := ?_)
  refine OW_callV Try.func101 (by kernel_rfl) rfl (within_any w3 q.space 0 65536) rfl ?_
  intro w4 hx4
  have hb4 := hb3.ext hx4
  have hx04 := hx03.trans' hx4
  clear hb3
  refine go_ReqC (k := ?_)
  exact bodyE_ret1 rfl (.bool _) rfl ⟨by unfold fine2; rw [h1, h2]; rfl, hx04⟩
set_option maxHeartbeats 8000000 in
theorem shp8_any (w : World) (A : Option Addr) (c : Nat) (q : QR) : Calls Try.prog 107 #[.agg (qcells q (.slice A q.token.length c)).toArray] w (RetV w (.bool (fine8 q))) := by
  refine calls_of_CW Try.func107 rfl (by simp [Try.ntmps107]) ?_
  rw [Try.ntmps107]
  refine go_ReqC (k := ?_)
  refine OW_box _ rfl ?_
  intro w1 g hb hg hlt hx1
  have hb1 : Blk w1 g 39 (qcells q (.slice A q.token.length c)).toArray := hb
  clear hb
  have hx01 := hx1
  refine go_ReqC (k := ?_)
  refine OW_split 7 _ rfl (fun h1 => ?_) (fun h1 => ?_)
  rotate_left 1
  · refine go_ReqC (k := ?_)
    exact bodyE_ret1 rfl (.bool false) rfl ⟨by unfold fine8; rw [h1]; rfl, hx01⟩
  refine go_ReqC (k := ?_)
  refine OW_callV Try.func101 (by kernel_rfl) rfl (within_any w1 q.n 1 16) rfl ?_
  intro w2 hx2
  have hb2 := hb1.ext hx2
  have hx02 := hx01.trans' hx2
  clear hb1
  refine go_ReqC (k := ?_)
  exact bodyE_ret1 rfl (.bool _) rfl ⟨by unfold fine8; rw [h1]; rfl, hx02⟩
set_option maxHeartbeats 8000000 in
theorem shp12_any (w : World) (A : Option Addr) (c : Nat) (q : QR) : Calls Try.prog 112 #[.agg (qcells q (.slice A q.token.length c)).toArray] w (RetV w (.bool (fine12 q))) := by
  refine calls_of_CW Try.func112 rfl (by simp [Try.ntmps112]) ?_
  rw [Try.ntmps112]
  refine go_ReqC (k := ?_)
  refine OW_box _ rfl ?_
  intro w1 g hb hg hlt hx1
  have hb1 : Blk w1 g 39 (qcells q (.slice A q.token.length c)).toArray := hb
  clear hb
  have hx01 := hx1
  refine go_ReqC (k := ?_)
  refine OW_loadX agg_Req rfl (qcells q (.slice A q.token.length c)) rfl hb1.atL ?_
  refine go_ReqC (k := ?_)
  refine OW_callV Try.func110 (by kernel_rfl) rfl (anyone_any w1 A c q) rfl ?_
  intro w2 hx2
  have hb2 := hb1.ext hx2
  have hx02 := hx01.trans' hx2
  clear hb1
  refine go_ReqC (k := ?_)
  refine OW_split 5 _ rfl (fun h1 => ?_) (fun h1 => ?_)
  rotate_left 1
  · refine go_ReqC (k := ?_)
    exact bodyE_ret1 rfl (.bool false) rfl ⟨by unfold fine12; rw [h1]; rfl, hx02⟩
  refine go_ReqC (k := ?_)
  refine OW_callV Try.func101 (by kernel_rfl) rfl (within_any w2 q.n 0 65536) rfl ?_
  intro w3 hx3
  have hb3 := hb2.ext hx3
  have hx03 := hx02.trans' hx3
  clear hb2
  refine go_ReqC (k := ?_)
  exact bodyE_ret1 rfl (.bool _) rfl ⟨by unfold fine12; rw [h1]; rfl, hx03⟩
set_option maxHeartbeats 8000000 in
theorem shp14_any (w : World) (A : Option Addr) (c : Nat) (q : QR) : Calls Try.prog 114 #[.agg (qcells q (.slice A q.token.length c)).toArray] w (RetV w (.bool (fine14 q))) := by
  refine calls_of_CW Try.func114 rfl (by simp [Try.ntmps114]) ?_
  rw [Try.ntmps114]
  refine go_ReqC (k := ?_)
  refine OW_box _ rfl ?_
  intro w1 g hb hg hlt hx1
  have hb1 : Blk w1 g 39 (qcells q (.slice A q.token.length c)).toArray := hb
  clear hb
  have hx01 := hx1
  refine go_ReqC (k := ?_)
  refine OW_callV Try.func101 (by kernel_rfl) rfl (within_any w1 q.n 0 65536) rfl ?_
  intro w2 hx2
  have hb2 := hb1.ext hx2
  have hx02 := hx01.trans' hx2
  clear hb1
  refine go_ReqC (k := ?_)
  exact bodyE_ret1 rfl (.bool _) rfl ⟨rfl, hx02⟩
theorem bld_G0 : ∀ w, (Instr.build 37 [].toArray).run Try.prog w = .ok (.agg (gcells ⟨0, 0, 0⟩).toArray) w := fun w => by kernel_rfl
theorem grant_in {w : World} {g : Nat} {T : TypeId} {q : QR} {v : Value} (hb : Blk w g T (qcells q v).toArray) : At w ⟨g, 9, none⟩ (gcells ⟨q.rights, q.expiry, q.serial⟩) := fun j u hu => by
  rw [addr_add_off, hb.cell]
  have hj : j < 3 := (List.getElem?_eq_some_iff.1 hu).1
  match j, hj, hu with
  | 0, _, hu => exact hu
  | 1, _, hu => exact hu
  | 2, _, hu => exact hu
theorem grant0_iff (q : QR) : grant0 q = true ↔ (⟨q.rights, q.expiry, q.serial⟩ : GD) = ⟨0, 0, 0⟩ := by
  unfold grant0
  simp only [Bool.and_eq_true, beq_iff_eq, GD.mk.injEq, and_assoc]
set_option maxHeartbeats 8000000 in
theorem bare_any (w : World) (A : Option Addr) (c : Nat) (q : QR) (hI : I64 q.expiry ∧ I64 q.serial) : Calls Try.prog 66 #[.agg (qcells q (.slice A q.token.length c)).toArray] w (RetV w (.bool (bareQ q))) := by
  refine calls_of_CW Try.func66 rfl (by simp [Try.ntmps66]) ?_
  rw [Try.ntmps66]
  refine go_ReqC (k := ?_)
  refine OW_box _ rfl ?_
  intro w1 g hb hg hlt hx1
  have hb1 : Blk w1 g 39 (qcells q (.slice A q.token.length c)).toArray := hb
  clear hb
  have hx01 := hx1
  refine go_ReqC (k := ?_)
  refine OW_split 6 _ rfl (fun h1 => ?_) (fun h1 => ?_)
  rotate_left 1
  · refine go_ReqC (k := ?_)
    exact bodyE_ret1 rfl (.bool false) rfl ⟨by unfold bareQ; rw [h1]; rfl, hx01⟩
  refine go_ReqC (k := ?_)
  refine OW_split 11 _ rfl (fun h2 => ?_) (fun h2 => ?_)
  rotate_left 1
  · refine go_ReqC (k := ?_)
    exact bodyE_ret1 rfl (.bool false) rfl ⟨by unfold bareQ; rw [h1, h2]; rfl, hx01⟩
  refine go_ReqC (k := ?_)
  refine OW_split 16 _ rfl (fun h3 => ?_) (fun h3 => ?_)
  rotate_left 1
  · refine go_ReqC (k := ?_)
    exact bodyE_ret1 rfl (.bool false) rfl ⟨by unfold bareQ; rw [h1, h2, h3]; rfl, hx01⟩
  refine go_ReqC (k := ?_)
  refine OW_split 21 _ rfl (fun h4 => ?_) (fun h4 => ?_)
  rotate_left 1
  · refine go_ReqC (k := ?_)
    exact bodyE_ret1 rfl (.bool false) rfl ⟨by unfold bareQ; rw [h1, h2, h3, h4]; rfl, hx01⟩
  refine go_ReqC (k := ?_)
  refine OW_split 26 _ rfl (fun h5 => ?_) (fun h5 => ?_)
  rotate_left 1
  · refine go_ReqC (k := ?_)
    exact bodyE_ret1 rfl (.bool false) rfl ⟨by unfold bareQ; rw [h1, h2, h3, h4, h5]; rfl, hx01⟩
  refine go_ReqC (k := ?_)
  refine OW_split 31 _ rfl (fun h6 => ?_) (fun h6 => ?_)
  rotate_left 1
  · refine go_ReqC (k := ?_)
    exact bodyE_ret1 rfl (.bool false) rfl ⟨by unfold bareQ; rw [h1, h2, h3, h4, h5, h6]; rfl, hx01⟩
  refine go_ReqC (k := ?_)
  refine OW_split 36 _ rfl (fun h7 => ?_) (fun h7 => ?_)
  rotate_left 1
  · refine go_ReqC (k := ?_)
    exact bodyE_ret1 rfl (.bool false) rfl ⟨by unfold bareQ; rw [h1, h2, h3, h4, h5, h6, h7]; rfl, hx01⟩
  refine go_ReqC (k := ?_)
  refine OW_loadX agg_Grant rfl (gcells ⟨q.rights, q.expiry, q.serial⟩) rfl (grant_in hb1) ?_
  refine go_ReqC (k := ?_)
  refine OW_build _ _ bld_G0 rfl ?_
  refine go_ReqC (k := ?_)
  refine OW_eqlG rfl rfl ⟨hI.1, hI.2⟩ ⟨by unfold I64; simp, by unfold I64; simp⟩ (grant0 q) (grant0_iff q) ?_
  refine go_ReqC (k := ?_)
  exact bodyE_ret1 rfl (.bool _) rfl ⟨by unfold bareQ; rw [h1, h2, h3, h4, h5, h6, h7]; rfl, hx01⟩
set_option maxHeartbeats 8000000 in
theorem shp3_any (w : World) (g : Nat) (q : QR) (v : Value) (hb : Blk w g 39 (qcells q v).toArray) : Calls Try.prog 102 #[.pointer (some ⟨g, 0, none⟩)] w (fun en w' => en = .returned (.tuple #[]) ∧ Blk w' g 39 (qcells ({ q with ten := 0, keys := 0, space := 0 }) v).toArray ∧ Keeps w w' (· = g)) := by
  refine calls_of_CW Try.func102 rfl (by simp [Try.ntmps102]) ?_
  rw [Try.ntmps102]
  refine go_ReqC (k := ?_)
  refine OW_storeB one_int rfl (.int .i64 0) rfl rfl hb (by show 6 < 12; decide) ?_
  intro w1 hb1 hg1
  replace hb1 : Blk w1 g 39 (qcells ({ q with ten := 0 }) v).toArray := hb1
  refine go_ReqC (k := ?_)
  refine OW_storeB one_int rfl (.int .i64 0) rfl rfl hb1 (by show 7 < 12; decide) ?_
  intro w2 hb2 hg2
  replace hb2 : Blk w2 g 39 (qcells ({ q with ten := 0, keys := 0 }) v).toArray := hb2
  refine go_ReqC (k := ?_)
  refine OW_storeB one_int rfl (.int .i64 0) rfl rfl hb2 (by show 8 < 12; decide) ?_
  intro w3 hb3 hg3
  replace hb3 : Blk w3 g 39 (qcells ({ q with ten := 0, keys := 0, space := 0 }) v).toArray := hb3
  refine go_ReqC (k := ?_)
  exact bodyE_end (bodyE_ret0 rfl ⟨rfl, hb3, (((Keeps.of_only hg1 (S := (· = g)) rfl).trans' (Keeps.of_only hg2 (S := (· = g)) rfl)).trans' (Keeps.of_only hg3 (S := (· = g)) rfl))⟩)
set_option maxHeartbeats 8000000 in
theorem shp4_any (w : World) (g : Nat) (q : QR) (v : Value) (hb : Blk w g 39 (qcells q v).toArray) : Calls Try.prog 103 #[.pointer (some ⟨g, 0, none⟩)] w (fun en w' => en = .returned (.tuple #[]) ∧ Blk w' g 39 (qcells ({ q with key := [] }) v).toArray ∧ Keeps w w' (· = g)) := by
  refine calls_of_CW Try.func103 rfl (by simp [Try.ntmps103]) ?_
  rw [Try.ntmps103]
  refine go_ReqC (k := ?_)
  refine OW_storeB one_str rfl (stv []) rfl rfl hb (by show 2 < 12; decide) ?_
  intro w1 hb1 hg1
  replace hb1 : Blk w1 g 39 (qcells ({ q with key := [] }) v).toArray := hb1
  refine go_ReqC (k := ?_)
  exact bodyE_end (bodyE_ret0 rfl ⟨rfl, hb1, (Keeps.of_only hg1 (S := (· = g)) rfl)⟩)
set_option maxHeartbeats 8000000 in
theorem shp5_any (w : World) (g : Nat) (q : QR) (v : Value) (hb : Blk w g 39 (qcells q v).toArray) : Calls Try.prog 104 #[.pointer (some ⟨g, 0, none⟩)] w (fun en w' => en = .returned (.tuple #[]) ∧ Blk w' g 39 (qcells ({ q with key := [], value := [] }) v).toArray ∧ Keeps w w' (· = g)) := by
  refine calls_of_CW Try.func104 rfl (by simp [Try.ntmps104]) ?_
  rw [Try.ntmps104]
  refine go_ReqC (k := ?_)
  refine OW_storeB one_str rfl (stv []) rfl rfl hb (by show 2 < 12; decide) ?_
  intro w1 hb1 hg1
  replace hb1 : Blk w1 g 39 (qcells ({ q with key := [] }) v).toArray := hb1
  refine go_ReqC (k := ?_)
  refine OW_storeB one_str rfl (stv []) rfl rfl hb1 (by show 3 < 12; decide) ?_
  intro w2 hb2 hg2
  replace hb2 : Blk w2 g 39 (qcells ({ q with key := [], value := [] }) v).toArray := hb2
  refine go_ReqC (k := ?_)
  exact bodyE_end (bodyE_ret0 rfl ⟨rfl, hb2, ((Keeps.of_only hg1 (S := (· = g)) rfl).trans' (Keeps.of_only hg2 (S := (· = g)) rfl))⟩)
set_option maxHeartbeats 8000000 in
theorem shp7_any (w : World) (g : Nat) (q : QR) (v : Value) (hb : Blk w g 39 (qcells q v).toArray) : Calls Try.prog 106 #[.pointer (some ⟨g, 0, none⟩)] w (fun en w' => en = .returned (.tuple #[]) ∧ Blk w' g 39 (qcells ({ q with key := [], value := [], old := [] }) v).toArray ∧ Keeps w w' (· = g)) := by
  refine calls_of_CW Try.func106 rfl (by simp [Try.ntmps106]) ?_
  rw [Try.ntmps106]
  refine go_ReqC (k := ?_)
  refine OW_storeB one_str rfl (stv []) rfl rfl hb (by show 2 < 12; decide) ?_
  intro w1 hb1 hg1
  replace hb1 : Blk w1 g 39 (qcells ({ q with key := [] }) v).toArray := hb1
  refine go_ReqC (k := ?_)
  refine OW_storeB one_str rfl (stv []) rfl rfl hb1 (by show 3 < 12; decide) ?_
  intro w2 hb2 hg2
  replace hb2 : Blk w2 g 39 (qcells ({ q with key := [], value := [] }) v).toArray := hb2
  refine go_ReqC (k := ?_)
  refine OW_storeB one_str rfl (stv []) rfl rfl hb2 (by show 4 < 12; decide) ?_
  intro w3 hb3 hg3
  replace hb3 : Blk w3 g 39 (qcells ({ q with key := [], value := [], old := [] }) v).toArray := hb3
  refine go_ReqC (k := ?_)
  exact bodyE_end (bodyE_ret0 rfl ⟨rfl, hb3, (((Keeps.of_only hg1 (S := (· = g)) rfl).trans' (Keeps.of_only hg2 (S := (· = g)) rfl)).trans' (Keeps.of_only hg3 (S := (· = g)) rfl))⟩)
set_option maxHeartbeats 8000000 in
theorem shp9_any (w : World) (g : Nat) (q : QR) (v : Value) (hb : Blk w g 39 (qcells q v).toArray) : Calls Try.prog 108 #[.pointer (some ⟨g, 0, none⟩)] w (fun en w' => en = .returned (.tuple #[]) ∧ Blk w' g 39 (qcells ({ q with key := [], n := 0 }) v).toArray ∧ Keeps w w' (· = g)) := by
  refine calls_of_CW Try.func108 rfl (by simp [Try.ntmps108]) ?_
  rw [Try.ntmps108]
  refine go_ReqC (k := ?_)
  refine OW_storeB one_str rfl (stv []) rfl rfl hb (by show 2 < 12; decide) ?_
  intro w1 hb1 hg1
  replace hb1 : Blk w1 g 39 (qcells ({ q with key := [] }) v).toArray := hb1
  refine go_ReqC (k := ?_)
  refine OW_storeB one_int rfl (.int .i64 0) rfl rfl hb1 (by show 5 < 12; decide) ?_
  intro w2 hb2 hg2
  replace hb2 : Blk w2 g 39 (qcells ({ q with key := [], n := 0 }) v).toArray := hb2
  refine go_ReqC (k := ?_)
  exact bodyE_end (bodyE_ret0 rfl ⟨rfl, hb2, ((Keeps.of_only hg1 (S := (· = g)) rfl).trans' (Keeps.of_only hg2 (S := (· = g)) rfl))⟩)
set_option maxHeartbeats 8000000 in
theorem shp11_any (w : World) (g : Nat) (q : QR) (v : Value) (hb : Blk w g 39 (qcells q v).toArray) : Calls Try.prog 111 #[.pointer (some ⟨g, 0, none⟩)] w (fun en w' => en = .returned (.tuple #[]) ∧ Blk w' g 39 (qcells ({ q with ten := 0, rights := 0, expiry := 0, serial := 0 }) v).toArray ∧ Keeps w w' (· = g)) := by
  refine calls_of_CW Try.func111 rfl (by simp [Try.ntmps111]) ?_
  rw [Try.ntmps111]
  refine go_ReqC (k := ?_)
  refine OW_build _ _ bld_G0 rfl ?_
  refine go_ReqC (k := ?_)
  refine OW_storeB one_int rfl (.int .i64 0) rfl rfl hb (by show 6 < 12; decide) ?_
  intro w1 hb1 hg1
  replace hb1 : Blk w1 g 39 (qcells ({ q with ten := 0 }) v).toArray := hb1
  refine go_ReqC (k := ?_)
  refine OW_storeM agg_Grant rfl (gcells ⟨0, 0, 0⟩) rfl rfl hb1 (by show 9 + 3 ≤ 12; decide) (gcells_one _) ?_
  intro w2 hb2 hg2
  replace hb2 : Blk w2 g 39 (qcells ({ q with ten := 0, rights := 0, expiry := 0, serial := 0 }) v).toArray := hb2
  refine go_ReqC (k := ?_)
  exact bodyE_end (bodyE_ret0 rfl ⟨rfl, hb2, ((Keeps.of_only hg1 (S := (· = g)) rfl).trans' (Keeps.of_only hg2 (S := (· = g)) rfl))⟩)
set_option maxHeartbeats 8000000 in
theorem shp13_any (w : World) (g : Nat) (q : QR) (v : Value) (hb : Blk w g 39 (qcells q v).toArray) : Calls Try.prog 113 #[.pointer (some ⟨g, 0, none⟩)] w (fun en w' => en = .returned (.tuple #[]) ∧ Blk w' g 39 (qcells ({ q with ten := 0, n := 0 }) v).toArray ∧ Keeps w w' (· = g)) := by
  refine calls_of_CW Try.func113 rfl (by simp [Try.ntmps113]) ?_
  rw [Try.ntmps113]
  refine go_ReqC (k := ?_)
  refine OW_storeB one_int rfl (.int .i64 0) rfl rfl hb (by show 6 < 12; decide) ?_
  intro w1 hb1 hg1
  replace hb1 : Blk w1 g 39 (qcells ({ q with ten := 0 }) v).toArray := hb1
  refine go_ReqC (k := ?_)
  refine OW_storeB one_int rfl (.int .i64 0) rfl rfl hb1 (by show 5 < 12; decide) ?_
  intro w2 hb2 hg2
  replace hb2 : Blk w2 g 39 (qcells ({ q with ten := 0, n := 0 }) v).toArray := hb2
  refine go_ReqC (k := ?_)
  exact bodyE_end (bodyE_ret0 rfl ⟨rfl, hb2, ((Keeps.of_only hg1 (S := (· = g)) rfl).trans' (Keeps.of_only hg2 (S := (· = g)) rfl))⟩)
set_option maxHeartbeats 8000000 in
theorem shp15_any (w : World) (g : Nat) (q : QR) (v : Value) (hb : Blk w g 39 (qcells q v).toArray) : Calls Try.prog 115 #[.pointer (some ⟨g, 0, none⟩)] w (fun en w' => en = .returned (.tuple #[]) ∧ Blk w' g 39 (qcells ({ q with n := 0 }) v).toArray ∧ Keeps w w' (· = g)) := by
  refine calls_of_CW Try.func115 rfl (by simp [Try.ntmps115]) ?_
  rw [Try.ntmps115]
  refine go_ReqC (k := ?_)
  refine OW_storeB one_int rfl (.int .i64 0) rfl rfl hb (by show 5 < 12; decide) ?_
  intro w1 hb1 hg1
  replace hb1 : Blk w1 g 39 (qcells ({ q with n := 0 }) v).toArray := hb1
  refine go_ReqC (k := ?_)
  exact bodyE_end (bodyE_ret0 rfl ⟨rfl, hb1, (Keeps.of_only hg1 (S := (· = g)) rfl)⟩)
theorem one_fn : OneT Try.prog 40 := ⟨.nilFunc, 8, by kernel_rfl, rfl, by kernel_rfl⟩
set_option maxHeartbeats 8000000 in
theorem shp6_any (w : World) (A : Option Addr) (c : Nat) (q : QR) (gv : Nat) (hv : w.cell? ⟨gv, 0, none⟩ = some (.func (.func 97) #[] #[])) : Calls Try.prog 105 #[.agg (qcells q (.slice A q.token.length c)).toArray, .pointer (some ⟨gv, 0, none⟩)] w (RetV w (.bool (fine6 q))) := by
  refine calls_of_CW Try.func105 rfl (by simp [Try.ntmps105]) ?_
  rw [Try.ntmps105]
  refine go_ReqC (k := ?_)
  refine OW_box _ rfl ?_
  intro w1 g hb hg hlt hx1
  have hb1 : Blk w1 g 39 (qcells q (.slice A q.token.length c)).toArray := hb
  clear hb
  have hv1 := hx1.cell' hv
  refine go_ReqC (k := ?_)
  refine OW_load1 one_fn rfl _ hv1 ?_
  refine go_ReqC (k := ?_)
  refine OW_loadX agg_Req rfl (qcells q (.slice A q.token.length c)) rfl hb1.atL ?_
  refine go_ReqC (k := ?_)
  refine OW_callF Try.func97 (by kernel_rfl) rfl rfl (shp1_any w1 A c q) rfl ?_
  rintro en w2 ⟨rfl, hx2⟩
  refine ⟨_, rfl, ?_⟩
  have hb2 := hb1.ext hx2
  have hx02 := hx1.trans' hx2
  clear hb1
  refine go_ReqC (k := ?_)
  refine OW_split 7 _ rfl (fun h1 => ?_) (fun h1 => ?_)
  rotate_left 1
  · refine go_ReqC (k := ?_)
    exact bodyE_ret1 rfl (.bool false) rfl ⟨by unfold fine6; rw [h1]; rfl, hx02⟩
  refine go_ReqC (k := ?_)
  exact bodyE_ret1 rfl (.bool _) rfl ⟨by unfold fine6; rw [h1]; rfl, hx02⟩
theorem i64_u8 (b : UInt8) : IntKind.i64.wrap (b.toNat : Int) = b.toNat := by
  have h := b.toNat_lt
  exact wrap64_in (by omega)
set_option maxHeartbeats 8000000 in
theorem shp10_any (w : World) (A : Option Addr) (c : Nat) (q : QR) : Calls Try.prog 109 #[.agg (qcells q (.slice A q.token.length c)).toArray] w (RetV w (.bool (fine10 q))) := by
  refine calls_of_CW Try.func109 rfl (by simp [Try.ntmps109]) ?_
  rw [Try.ntmps109]
  refine go_ReqC (k := ?_)
  refine OW_box _ rfl ?_
  intro w1 g hb hg hlt hx1
  have hb1 : Blk w1 g 39 (qcells q (.slice A q.token.length c)).toArray := hb
  clear hb
  refine go_ReqC (k := ?_)
  refine OW_loadX agg_Grant rfl (gcells ⟨q.rights, q.expiry, q.serial⟩) rfl (grant_in hb1) ?_
  refine go_ReqC (k := ?_)
  refine OW_allocA agg_Grant ?_
  intro w2 g2 hb2 hg2 hlt2 hx2
  refine go_ReqC (k := ?_)
  refine OW_storeA agg_Grant rfl (gcells ⟨q.rights, q.expiry, q.serial⟩) rfl rfl hb2 (by kernel_rfl) (gcells_one _) ?_
  intro w3 hb3 hg3
  have hK : Keeps w2 w3 (· = g2) := Keeps.of_only hg3 rfl
  have hx03 : Ext w w3 := hK.ext (hx1.trans' hx2) (fun j hj => by have hj : j = g2 := hj; have := hx1.size; omega)
  have hbr := (hb1.ext hx2).keeps hK (by omega)
  clear hb1 hb2 hg3 hK
  refine go_ReqC (k := ?_)
  refine OW_loadX agg_Req rfl (qcells q (.slice A q.token.length c)) rfl hbr.atL ?_
  refine go_ReqC (k := ?_)
  refine OW_callV Try.func110 (by kernel_rfl) rfl (anyone_any w3 A c q) rfl ?_
  intro w4 hx4
  replace hb3 := hb3.ext hx4
  have hx04 := hx03.trans' hx4
  clear hbr
  refine go_ReqC (k := ?_)
  refine OW_split 8 _ rfl (fun h1 => ?_) (fun h1 => ?_)
  rotate_left 1
  · refine go_ReqC (k := ?_)
    exact bodyE_ret1 rfl (.bool false) rfl ⟨by unfold fine10; rw [h1]; rfl, hx04⟩
  refine go_ReqC (k := ?_)
  rw [i64_u8]
  refine OW_callV Try.func101 (by kernel_rfl) rfl (within_any w4 q.rights.toNat 1 15) rfl ?_
  intro w5 hx5
  replace hb3 := hb3.ext hx5
  have hx05 := hx04.trans' hx5
  refine go_ReqC (k := ?_)
  refine OW_split 14 _ rfl (fun h2 => ?_) (fun h2 => ?_)
  rotate_left 1
  · refine go_ReqC (k := ?_)
    exact bodyE_ret1 rfl (.bool false) rfl ⟨by unfold fine10; rw [h1, h2]; rfl, hx05⟩
  refine go_ReqC (k := ?_)
  refine OW_callV Try.func101 (by kernel_rfl) rfl (within_any w5 q.expiry 0 1099511627776) rfl ?_
  intro w6 hx6
  replace hb3 := hb3.ext hx6
  have hx06 := hx05.trans' hx6
  refine go_ReqC (k := ?_)
  refine OW_split 19 _ rfl (fun h3 => ?_) (fun h3 => ?_)
  rotate_left 1
  · refine go_ReqC (k := ?_)
    exact bodyE_ret1 rfl (.bool false) rfl ⟨by unfold fine10; rw [h1, h2, h3]; rfl, hx06⟩
  refine go_ReqC (k := ?_)
  exact bodyE_ret1 rfl (.bool _) rfl ⟨by unfold fine10; rw [h1, h2, h3]; rfl, hx06⟩
end Go.Proofs.Ytdpomchhbbopbaa
