/- The abstract calculus, part B: a small code, computed from the model's; what it does to abstract values. -/
import Derived.Test.YtmfiegjncfgohaaDenA
namespace Go.Proofs.Ytmfiegjncfgohaa.Den
open Go.RowKit
set_option linter.unusedVariables false

inductive Opd where
  | t (n : Nat)
  | c (x : SV)
  | ca (l : List SV)
  deriving DecidableEq, Inhabited

inductive AOp where
  | mov (x : Opd)
  | pick (c a b : Opd)
  | alloc (ty sz : Nat) (zero : List SV)
  | box (ty : Nat) (x : Opd)
  | build (zero : List SV) (parts : List (Nat × Nat × Opd))
  | mkrow (ty sz : Nat) (zero : List SV) (len : Nat) (parts : List (Nat × Opd))
  | load1 (a : Opd)
  | loadn (sz : Nat) (a : Opd)
  | store (sz : Nat) (a x : Opd)
  | nilck (x : Opd)
  | bin (op : BinOp) (x y : Opd)
  | eqb (neg : Bool) (x y : Opd)
  | eqnil (neg : Bool) (x y : Opd)
  | eqagg (neg : Bool) (ks : List Nat) (x y : Opd)
  | un (op : UnOp) (x : Opd)
  | toInt (k : IntKind) (x : Opd)
  | mkfn (f : Nat) (caps : List Opd)
  | mkslice (ty sz bytes : Nat) (zero : List SV) (l c : Opd)
  | slice (sz : Nat) (x : Opd) (lo hi mx : Option Opd)
  | sslice (x : Opd) (lo hi : Option Opd)
  | faddr (off : Nat) (x : Opd)
  | field1 (off : Nat) (x : Opd)
  | fieldn (off sz : Nat) (x : Opd)
  | iaddr (sz : Nat) (x i : Opd)
  | sidx (x i : Opd)
  | extract (x : Opd) (k : Nat)
  | len (x : Opd)
  | slen (x : Opd)
  | append (ty sz bytes : Nat) (x y : Opd)
  | mx (x y : Opd)
  | mn (x y : Opd)
  | clr (sz : Nat) (zero : List SV) (x : Opd)
  | cpy (sz : Nat) (x y : Opd)
  | call (f : Nat) (args : List Opd)
  | callv (x : Opd) (args : List Opd)
  /-- Of a function without a body: the model's own. -/
  | callx (f : Nat) (args : List Opd)
  /-- The room of a slice. -/
  | capx (x : Opd)
  /-- A slice made longer than it is known to have room for. -/
  | slicex (sz : Nat) (x h : Opd)
  /-- Zeros appended. -/
  | appz (ty sz bytes : Nat) (zero : List SV) (x n : Opd)
  deriving DecidableEq, Inhabited

structure AOper where
  dst : Option Nat
  op : AOp
  guard : Option (Nat × Bool)
  chk : List (AOp × Nat × Option (Nat × Bool))
  deriving DecidableEq, Inhabited

inductive Cat where
  | light
  | float
  | heavy
  deriving DecidableEq, Inhabited

inductive ACode where
  | skip
  | reg (ops : List AOper) (keep : List Nat)
  | dreg (ops : List (Nat × Cat × AOper)) (keep : List Nat)
  | seq (a b : ACode)
  | cond (c : Opd) (a b : ACode)
  | block (id : Nat) (c : ACode)
  | loop (c : ACode)
  | wk (c : ACode)
  | exit (id : Nat)
  | ret
  deriving Inhabited

/-! ### The abstract heap -/
namespace AHeap
def push (H : AHeap) (k : Blk) : AHeap := ⟨fun b => if b = H.nx then some k else H.get b, H.nx + 1, none⟩
def upd (H : AHeap) (b : Nat) (k : Blk) : AHeap := ⟨fun b' => if b' = b then some k else H.get b', H.nx, none⟩
def del (H : AHeap) (b : Nat) : AHeap := ⟨fun b' => if b' = b then none else H.get b', H.nx, none⟩
/-- The room of a block, known from now on. -/
def mark (H : AHeap) (b F : Nat) : AHeap := ⟨H.get, H.nx, some (b, F)⟩
theorem mark_get (H : AHeap) (b F : Nat) : (H.mark b F).get = H.get := rfl
theorem mark_nx (H : AHeap) (b F : Nat) : (H.mark b F).nx = H.nx := rfl
theorem mark_full (H : AHeap) (b F : Nat) : (H.mark b F).full = some (b, F) := rfl
theorem mark_push (H : AHeap) (b F : Nat) (k : Blk) : (H.mark b F).push k = H.push k := rfl
theorem mark_upd (H : AHeap) (b F c : Nat) (k : Blk) : (H.mark b F).upd c k = H.upd c k := rfl
theorem mark_del (H : AHeap) (b F c : Nat) : (H.mark b F).del c = H.del c := rfl
def row (H : AHeap) (b i : Nat) : Option (List SV) := (H.get b).bind fun k => k.rows[i]?
def cell (H : AHeap) (b i j : Nat) : Option SV := (H.row b i).bind fun r => r[j]?
def cells (H : AHeap) (b i j n : Nat) : Option (List SV) := (H.row b i).bind fun r => if j + n ≤ r.length then some ((r.drop j).take n) else none
def put (H : AHeap) (b i j : Nat) (l : List SV) : Option AHeap :=
  (H.get b).bind fun k => (k.rows[i]?).bind fun r =>
    if j + l.length ≤ r.length then some (H.upd b { k with rows := k.rows.set i (r.take j ++ l ++ r.drop (j + l.length)) }) else none
/-- Elements written over others. -/
def wrows (H : AHeap) (b i sz : Nat) (new : List (List SV)) : Option AHeap :=
  (H.get b).bind fun k => if k.sz = sz ∧ i + new.length ≤ k.rows.length then some (H.upd b { k with rows := k.rows.take i ++ new ++ k.rows.drop (i + new.length) }) else none
/-- The like where what is written may go on behind the last. -/
def wrowsx (H : AHeap) (b i sz : Nat) (new : List (List SV)) : Option AHeap :=
  (H.get b).bind fun k => if k.sz = sz ∧ i ≤ k.rows.length then some (H.upd b { k with rows := k.rows.take i ++ new ++ k.rows.drop (i + new.length) }) else none
end AHeap

def AV.cells : AV → Option (List SV)
  | .s x => some [x]
  | .agg l => some l
  | _ => none

/-! ### The operations -/
def abin (op : BinOp) (x y : SV) : Option SV :=
  match x, y with
  | .int k a, .int k' b =>
    match op with
    | .shl => if 0 ≤ b then some (.int k (k.wrap (a * 2 ^ (min b.toNat k.bits)))) else none
    | .shr => if 0 ≤ b then some (.int k (a.fdiv (2 ^ (min b.toNat k.bits)))) else none
    | _ => if k = k' then
        match op with
        | .add => some (.int k (k.wrap (a + b)))
        | .sub => some (.int k (k.wrap (a - b)))
        | .mul => some (.int k (k.wrap (a * b)))
        | .quo => if b = 0 then none else some (.int k (k.wrap (a.tdiv b)))
        | .rem => if b = 0 then none else some (.int k (a.tmod b))
        | .and => some (.int k (k.wrap ((BitVec.ofInt k.bits a &&& BitVec.ofInt k.bits b).toNat)))
        | .or => some (.int k (k.wrap ((BitVec.ofInt k.bits a ||| BitVec.ofInt k.bits b).toNat)))
        | .xor => some (.int k (k.wrap ((BitVec.ofInt k.bits a ^^^ BitVec.ofInt k.bits b).toNat)))
        | .eql => some (.bool (decide (a = b)))
        | .neq => some (.bool (decide (a ≠ b)))
        | .lss => some (.bool (decide (a < b)))
        | .leq => some (.bool (decide (a ≤ b)))
        | .gtr => some (.bool (decide (b < a)))
        | .geq => some (.bool (decide (b ≤ a)))
        | _ => none
      else none
  | .str a, .str b =>
    match op with
    | .add => if a.size + b.size ≤ 9223372036854775807 then some (.str (a ++ b)) else none
    | .eql => some (.bool (a.toList == b.toList))
    | .neq => some (.bool (!(a.toList == b.toList)))
    | .lss => some (.bool (Op.bytesLess a.toList b.toList))
    | .leq => some (.bool (Op.bytesLess a.toList b.toList || a.toList == b.toList))
    | .gtr => some (.bool (!(Op.bytesLess a.toList b.toList || a.toList == b.toList)))
    | .geq => some (.bool (!(Op.bytesLess a.toList b.toList)))
    | _ => none
  | _, _ => none

/-- The rows that a source of append has. -/
def srcRows (H : AHeap) (sz : Nat) : AV → Option (List (List SV))
  | .s .nils => some []
  | .s .emp => some []
  | .s .nemp => some []
  | .s (.lst sz' rows) => if sz' = sz then some rows else none
  | .s (.sl b i n c) => (H.get b).bind fun k => if k.sz = sz ∧ i + n ≤ k.rows.length then some ((k.rows.drop i).take n) else none
  | _ => none

def afresh (H : AHeap) (ty sz bytes : Nat) (x : SV) (new : List (List SV)) : Option (AV × AHeap) :=
  if new = [] then some (.s x, H) else if new.length * bytes ≤ 140737488355328 ∧ new.length ≤ maxLen then
      some (.s (.sl H.nx 0 new.length new.length), H.push ⟨sz, ty, new⟩) else none
def aappend (H : AHeap) (ty sz bytes : Nat) (x : AV) (new : List (List SV)) : Option (AV × AHeap) :=
  match x with
  | .s .nils => afresh H ty sz bytes .nils new
  | .s .emp => afresh H ty sz bytes .emp new
  | .s (.sl b i n c) => if new = [] then some (x, H) else
      (H.get b).bind fun k => if k.sz = sz ∧ k.ty = ty ∧ i = 0 ∧ n ≤ k.rows.length ∧ (n + new.length) * bytes ≤ 140737488355328 ∧ n + new.length ≤ maxLen then
        (if n + new.length ≤ c then some (.s (.sl b 0 (n + new.length) c), H.upd b { k with rows := k.rows.take n ++ new ++ k.rows.drop (n + new.length) })
         else some (.s (.sl H.nx 0 (n + new.length) (n + new.length)), (H.del b).push ⟨sz, ty, k.rows.take n ++ new⟩)) else none
  | _ => none

/-- Parts laid into cells, places told. -/
def afill : List (Nat × Nat × AV) → List SV → Option (List SV)
  | [], cs => some cs
  | (off, sz, v) :: r, cs => v.cells.bind fun l => if l.length = sz ∧ off + sz ≤ cs.length then afill r (cs.take off ++ l ++ cs.drop (off + sz)) else none
def afillRows : List (Nat × AV) → List (List SV) → Nat → Option (List (List SV))
  | [], rs, _ => some rs
  | (i, v) :: r, rs, sz => v.cells.bind fun l => if l.length = sz ∧ i < rs.length then afillRows r (rs.set i l) sz else none

def capsOf : List AV → Option (List (Nat × Nat × Nat))
  | [] => some []
  | .s (.ptr b i j) :: r => (capsOf r).map ((b, i, j) :: ·)
  | _ => none

def pickv (t : Bool) (a b : AV) : AV :=
  match a, b with
  | .s (.bool x), .s (.bool y) => .s (.bool (if t then x else y))
  | .s (.int k x), .s (.int k' y) => if k = k' then .s (.int k (if t then x else y)) else if t then a else b
  | _, _ => if t then a else b

def bound (d : Nat) (ev : Opd → AV) : Option Opd → Option Nat
  | none => some d
  | some o => match ev o with | .s (.int _ n) => if 0 ≤ n then some n.toNat else none | _ => none

/-- A block that is there, with elements of so many cells. -/
def AHeap.has (H : AHeap) (b sz : Nat) : Bool := match H.get b with | some k => k.sz == sz | none => false

def alen : AV → Option Nat
  | .s (.sl _ _ n _) => some n
  | .s .nils => some 0
  | .s .emp => some 0
  | .s .nemp => some 0
  | .s (.lst _ rows) => some rows.length
  | _ => none

/-- Whether two rows of plain cells are the same: 0 numbers, 1 truth values, 2 texts. -/
def aeq : List Nat → List SV → List SV → Option Bool
  | [], [], [] => some true
  | 0 :: ks, .int k a :: r, .int k' b :: r' => if k = k' then (aeq ks r r').map fun t => decide (a = b) && t else none
  | 1 :: ks, .bool a :: r, .bool b :: r' => (aeq ks r r').map fun t => decide (a = b) && t
  | 2 :: ks, .str a :: r, .str b :: r' => (aeq ks r r').map fun t => decide (a = b) && t
  | _, _, _ => none

/-- The beginning of a slice. -/
def cutTo (y : AV) (n : Nat) : AV :=
  match y with
  | .s (.sl b i m c) => .s (.sl b i (min m n) c)
  | y => y
/-- A slice made longer, where the room of its block is known. -/
def beyond (H : AHeap) (b i c l h sz : Nat) : Option (AV × AHeap) :=
  match H.full with
  | some (b', F) => if b' = b ∧ 0 < c ∧ l ≤ h ∧ i + h ≤ F ∧ H.has b sz = true then some (.s (.sl b (i + l) (h - l) (F - i - l)), H) else none
  | none => none
def xbeyond (sz : Nat) (x h : AV) (H : AHeap) : Option (AV × AHeap) :=
  match x, h with
  | .s (.sl b i n c), .s (.int _ h) => if 0 ≤ h then beyond H b i c 0 h.toNat sz else none
  | _, _ => none
/-- Zeros appended to a beginning of a slice of a block whose room is known to be too small: the block stays. -/
def appz (H : AHeap) (ty sz bytes : Nat) (zero : List SV) (b i k z : Nat) : Option (AV × AHeap) :=
  match H.full with
  | some (b', F) => (H.get b).bind fun kb => if b' = b ∧ i = 0 ∧ kb.sz = sz ∧ k ≤ kb.rows.length ∧ F < k + z ∧ (k + z) * bytes ≤ 140737488355328 ∧ k + z ≤ maxLen then
      some (.s (.sl H.nx 0 (k + z) (k + z)), H.push ⟨sz, ty, kb.rows.take k ++ List.replicate z zero⟩) else none
  | none => none
def xappz (ty sz bytes : Nat) (zero : List SV) (x n : AV) (H : AHeap) : Option (AV × AHeap) :=
  match x, n with
  | .s (.sl b i k _), .s (.int .i64 z) => if 0 < z then appz H ty sz bytes zero b i k z.toNat else none
  | _, _ => none

def xop (o : AOp) (ev : Opd → AV) (H : AHeap) : Option (AV × AHeap) :=
  match o with
  | .mov x => some (ev x, H)
  | .pick c a b => match ev c with | .s (.bool t) => some (pickv t (ev a) (ev b), H) | _ => none
  | .alloc ty sz zero => some (.s (.ptr H.nx 0 0), H.push ⟨sz, ty, [zero]⟩)
  | .box ty x => (ev x).cells.bind fun l => some (.s (.ptr H.nx 0 0), H.push ⟨l.length, ty, [l]⟩)
  | .build zero ps => (afill (ps.map fun (o, s, x) => (o, s, ev x)) zero).map fun l => (.agg l, H)
  | .mkrow ty sz zero len ps => (afillRows (ps.map fun (i, x) => (i, ev x)) (List.replicate len zero) sz).map fun rs => (.s (.sl H.nx 0 len len), H.push ⟨sz, ty, rs⟩)
  | .load1 a => match ev a with | .s (.ptr b i j) => (H.cell b i j).map fun x => (.s x, H) | .s (.fptr r j) => (r[j]?).map fun x => (.s x, H) | _ => none
  | .loadn n a => match ev a with | .s (.ptr b i j) => (H.cells b i j n).map fun l => (.agg l, H) | .s (.fptr r j) => if j + n ≤ r.length then some (.agg ((r.drop j).take n), H) else none | _ => none
  | .store n a x => match ev a with | .s (.ptr b i j) => (ev x).cells.bind fun l => if l.length = n then (H.put b i j l).map fun H' => (.no, H') else none | _ => none
  | .nilck x => match ev x with | .s (.ptr b i j) => some (.s (.ptr b i j), H) | .s (.fn f cs) => some (.s (.fn f cs), H) | .s (.fptr r j) => some (.s (.fptr r j), H) | _ => none
  | .bin op x y => match ev x, ev y with | .s a, .s b => (abin op a b).map fun z => (.s z, H) | _, _ => none
  | .eqb neg x y => match ev x, ev y with | .s (.bool a), .s (.bool b) => some (.s (.bool (if neg then decide (a ≠ b) else decide (a = b))), H) | _, _ => none
  | .eqnil neg x y => match ev x, ev y with
    | .s .nils, .s .nils => some (.s (.bool (!neg)), H)
    | .s (.sl _ _ (_ + 1) _), .s .nils => some (.s (.bool neg), H)
    | .s .nils, .s (.sl _ _ (_ + 1) _) => some (.s (.bool neg), H)
    | .s .nemp, .s .nils => some (.s (.bool neg), H)
    | .s (.lst _ (_ :: _)), .s .nils => some (.s (.bool neg), H)
    | _, _ => none
  | .eqagg neg ks x y => match ev x, ev y with
    | .agg l, .agg l' => (aeq ks l l').map fun t => (.s (.bool (if neg then !t else t)), H)
    | _, _ => none
  | .un op x => match op, ev x with
    | .not, .s (.bool b) => some (.s (.bool (!b)), H)
    | .neg, .s (.int k n) => some (.s (.int k (k.wrap (0 - n))), H)
    | _, _ => none
  | .toInt k x => match ev x with | .s (.int _ n) => some (.s (.int k (k.wrap n)), H) | _ => none
  | .mkfn f caps => (capsOf (caps.map ev)).map fun cs => (.s (.fn f cs), H)
  | .mkslice ty sz bytes zero l c => match ev l, ev c with
    | .s (.int .i64 n), .s (.int .i64 m) => if 0 ≤ n ∧ n ≤ m ∧ m * bytes ≤ 140737488355328 ∧ m ≤ 9223372036854775807 then
        some (.s (.sl H.nx 0 n.toNat m.toNat), H.push ⟨sz, ty, List.replicate m.toNat zero⟩) else none
    | _, _ => none
  | .slice sz x lo hi mx => match ev x with
    | .s (.sl b i n c) => match mx with
      | none => (bound n ev hi).bind fun h => (bound 0 ev lo).bind fun l =>
        if l ≤ h ∧ h ≤ c ∧ H.has b sz = true then some (.s (.sl b (i + l) (h - l) (c - l)), H) else none
      | some _ => (bound c ev mx).bind fun m => (bound n ev hi).bind fun h => (bound 0 ev lo).bind fun l =>
        if l ≤ h ∧ h ≤ m ∧ m ≤ c ∧ H.has b sz = true then some (.s .any, H) else none
    | .s .nils => (bound 0 ev mx).bind fun m => (bound 0 ev hi).bind fun h => (bound 0 ev lo).bind fun l =>
        if l = 0 ∧ h = 0 ∧ m = 0 then some (.s .nils, H) else none
    | .s (.lst sz' rows) => (bound rows.length ev mx).bind fun m => (bound rows.length ev hi).bind fun h => (bound 0 ev lo).bind fun l =>
        if l ≤ h ∧ h ≤ m ∧ m ≤ rows.length ∧ sz' = sz then some (.s (if mx.isSome = true ∧ m = l then .emp else .lst sz' ((rows.take h).drop l)), H) else none
    | _ => none
  | .sslice x lo hi => match ev x with
    | .s (.str s) => (bound s.size ev hi).bind fun h => (bound 0 ev lo).bind fun l =>
        if l ≤ h ∧ h ≤ s.size then some (.s (.str (s.extract l h)), H) else none
    | _ => none
  | .faddr off x => match ev x with | .s (.ptr b i j) => some (.s (.ptr b i (j + off)), H) | .s (.fptr r j) => some (.s (.fptr r (j + off)), H) | _ => none
  | .field1 off x => match ev x with | .agg l => (l[off]?).map fun y => (.s y, H) | _ => none
  | .fieldn off n x => match ev x with | .agg l => if off + n ≤ l.length then some (.agg ((l.drop off).take n), H) else none | _ => none
  | .iaddr sz x i => match ev x, ev i with | .s (.sl b e n c), .s (.int _ k) => if 0 ≤ k ∧ k < n ∧ H.has b sz = true then some (.s (.ptr b (e + k.toNat) 0), H) else none | .s (.lst sz' rows), .s (.int _ k) => if 0 ≤ k ∧ sz' = sz then (rows[k.toNat]?).map fun r => (.s (.fptr r 0), H) else none | _, _ => none
  | .sidx x i => match ev x, ev i with | .s (.str s), .s (.int _ k) => if 0 ≤ k then (s[k.toNat]?).map fun b => (.s (.int .u8 b.toNat), H) else none | _, _ => none
  | .extract x k => match ev x with | .tup l => (l[k]?).map fun v => (v, H) | _ => none
  | .len x => (alen (ev x)).map fun (n : Nat) => (.s (.int .i64 n), H)
  | .slen x => match ev x with | .s (.str s) => some (.s (.int .i64 s.size), H) | _ => none
  | .append ty sz bytes x y => (srcRows H sz (ev y)).bind fun new => aappend H ty sz bytes (ev x) new
  | .mx x y => match ev x, ev y with | .s (.int k a), .s (.int k' b) => if k = k' then some (.s (.int k (max a b)), H) else none | _, _ => none
  | .mn x y => match ev x, ev y with | .s (.int k a), .s (.int k' b) => if k = k' then some (.s (.int k (min a b)), H) else none | _, _ => none
  | .clr sz zero x => match ev x with
    | .s (.sl b i n c) => if n = 0 then some (.tup [], H) else (H.wrows b i sz (List.replicate n zero)).map fun H' => (.tup [], H')
    | _ => none
  | .cpy sz x y => match ev x with
    | .s (.sl b i n c) => (srcRows H sz (cutTo (ev y) n)).bind fun new => if new.take n = [] then some (.s (.int .i64 0), H) else (H.wrowsx b i sz (new.take n)).map fun H' => (.s (.int .i64 (new.take n).length), H')
    | _ => none
  | .call _ _ => none
  | .callv _ _ => none
  | .callx _ _ => none
  | .capx _ => none
  | .slicex _ _ _ => none
  | .appz _ _ _ _ _ _ => none

/-! ### The translation -/
def sv : Value → Option SV
  | .int k n => some (.int k n)
  | .bool b => some (.bool b)
  | .string s => some (.str s)
  | .pointer none => some .nilp
  | .slice none 0 0 => some .nils
  | .nilFunc => some .nilf
  | _ => none
def svs : List Value → Option (List SV)
  | [] => some []
  | v :: r => (sv v).bind fun x => (svs r).map (x :: ·)
def opd : Operand → Option Opd
  | .tmp t => some (.t t)
  | .const (.agg cs) => (svs cs.toList).map .ca
  | .const v => (sv v).map .c
  | .func f => some (.c (.fn f []))
  | .global _ => none
def opds : List Operand → Option (List Opd)
  | [] => some []
  | x :: r => (opd x).bind fun y => (opds r).map (y :: ·)
def opdO : Option Operand → Option (Option Opd)
  | none => some none
  | some x => (opd x).map some

def isAggD : TypeDesc → Bool
  | .struct _ | .array _ _ => true
  | _ => false

/-- What is to be known of an element's type: cells, bytes, zero. -/
def einfo (P : Program) (t : TypeId) : Option (Nat × Nat × List SV) :=
  (P.info? t).bind fun i => i.zero.bind fun z => (svs z.cells.toList).bind fun l => if l.length = i.size ∧ 0 < i.size then some (i.size, i.bytes, l) else none

def compParts (P : Program) (fs : Array Field) : List (Nat × Operand) → Option (List (Nat × Nat × Opd))
  | [] => some []
  | (i, x) :: r => (fs[i]?).bind fun f => (P.info? f.type).bind fun d => (opd x).bind fun y => (compParts P fs r).map ((f.offset, d.size, y) :: ·)
def compElems : List (Nat × Operand) → Option (List (Nat × Opd))
  | [] => some []
  | (i, x) :: r => (opd x).bind fun y => (compElems r).map ((i, y) :: ·)
def sizesOk (P : Program) (fs : Array Field) : Bool := fs.toList.all fun f => (P.info? f.type).isSome

/-- A Go function that a call enters. -/
def callee (P : Program) (f : FuncId) : Bool :=
  match P.funcs[f]? with
  | some fn => fn.name != "runtime.NumGoroutine" && fn.body.isSome
  | none => false

/-- Fields of one plain cell each, from a place on. -/
def plainKinds (P : Program) : List Field → Nat → Option (List Nat)
  | [], _ => some []
  | f :: r, off => if f.name ≠ "_" ∧ f.offset = off then (match P.underlying f.type with | some (.int _) => some 0 | some .bool => some 1 | some .string => some 2 | _ => none).bind fun k => (plainKinds P r (off + 1)).map (k :: ·) else none

def compCall (P : Program) (c : Call) : Option AOp :=
  match c.callee with
  | .value (.func f) => if callee P f then (opds c.args.toList).map (.call f) else (opds c.args.toList).map (.callx f)
  | .value (.tmp t) => (opds c.args.toList).map (.callv (.t t))
  | .builtin .len => match c.args.toList, c.argTypes.toList with
    | [x], [t] => match P.underlying t with
      | some (.slice _) => (opd x).map .len
      | some .string => (opd x).map .slen
      | _ => none
    | _, _ => none
  | .builtin .append => match c.args.toList, c.argTypes.toList with
    | [x, y], [t, u] => match P.underlying t, P.underlying u with
      | some (.slice e), some (.slice _) => if t = u then (einfo P e).bind fun (sz, bytes, _) => (opd x).bind fun x => (opd y).map fun y => .append e sz bytes x y else none
      | _, _ => none
    | _, _ => none
  | .builtin .max => match c.args.toList with
    | [x, y] => (opd x).bind fun x => (opd y).map fun y => .mx x y
    | _ => none
  | .builtin .min => match c.args.toList with
    | [x, y] => (opd x).bind fun x => (opd y).map fun y => .mn x y
    | _ => none
  | .builtin .clear => match c.args.toList, c.argTypes.toList with
    | [x], [t] => match P.underlying t with
      | some (.slice e) => (einfo P e).bind fun (sz, _, z) => (opd x).map fun x => .clr sz z x
      | _ => none
    | _, _ => none
  | .builtin .copy => match c.args.toList, c.argTypes.toList with
    | [x, y], [t, u] => match P.underlying t, P.underlying u with
      | some (.slice e), some (.slice _) => (einfo P e).bind fun (sz, _, _) => (opd x).bind fun x => (opd y).map fun y => .cpy sz x y
      | _, _ => none
    | _, _ => none
  | _ => none

def comp (P : Program) : Op → Option AOp
  | .move x => (opd x).map .mov
  | .assign x => (opd x).map .mov
  | .pick c a b => (opd c).bind fun c => (opd a).bind fun a => (opd b).map fun b => .pick c a b
  | .alloc t => (einfo P t).map fun (sz, _, z) => .alloc t sz z
  | .box t x => (opd x).map fun x => .box t x
  | .build t ps => match P.underlying t with
    | some (.struct fs) => if sizesOk P fs then (einfo P t).bind fun (_, _, z) => (compParts P fs ps.toList).map fun ps => .build z ps else none
    | _ => none
  | .buildSlice t n ps => match P.underlying t with
    | some (.slice e) => (einfo P e).bind fun (sz, _, z) => if n * sz ≤ 16777216 then (compElems ps.toList).map fun ps => .mkrow e sz z n ps else none
    | _ => none
  | .load t a => match P.underlying t, P.info? t with
    | some d, some i => (opd a).map fun a => if isAggD d then .loadn i.size a else .load1 a
    | _, _ => none
  | .store t a x => (P.info? t).bind fun i => (opd a).bind fun a => (opd x).map fun x => .store i.size a x
  | .nilCheck x => (opd x).map .nilck
  | .binOp op t x y _ => (opd x).bind fun x' => (opd y).bind fun y' => match P.underlying t with
    | some (.int _) | some .string => some (.bin op x' y')
    | some .bool => if op = .eql then some (.eqb false x' y') else if op = .neq then some (.eqb true x' y') else none
    | some (.slice _) => if op = .eql then some (.eqnil false x' y') else if op = .neq then some (.eqnil true x' y') else none
    | some (.struct fs) => if P.stoodInHeld t = false ∧ P.eqGuardType P.depth t = false then (plainKinds P fs.toList 0).bind fun ks => (if op = .eql then some (.eqagg false ks x' y') else if op = .neq then some (.eqagg true ks x' y') else none) else none
    | _ => none
  | .unOp op _ x => (opd x).map fun x => .un op x
  | .convert s d x => match P.underlying s, P.underlying d with
    | some (.int _), some (.int k) => (opd x).map fun x => .toInt k x
    | _, _ => none
  | .makeFunc fn first caps => match fn with
    | .func f => if first.size = 0 ∧ callee P f = true then (opds caps.toList).map fun cs => .mkfn f cs else none
    | _ => none
  | .makeSlice t l c => match P.underlying t with
    | some (.slice e) => (einfo P e).bind fun (sz, bytes, z) => (opd l).bind fun l => (opd c).map fun c => .mkslice e sz bytes z l c
    | _ => none
  | .slice t x lo hi mx => match P.underlying t with
    | some (.slice e) => if mx.isSome && hi.isNone then none else (P.info? e).bind fun i => (opd x).bind fun x => (opdO lo).bind fun lo => (opdO hi).bind fun hi => (opdO mx).map fun mx => .slice i.size x lo hi mx
    | some .string => if mx.isSome then none else (opd x).bind fun x => (opdO lo).bind fun lo => (opdO hi).map fun hi => .sslice x lo hi
    | _ => none
  | .fieldAddr t x f => match P.underlying t with
    | some (.struct fs) => (fs[f]?).bind fun d => (P.info? d.type).bind fun i => if i.size ≠ 0 then (opd x).map fun x => .faddr d.offset x else none
    | _ => none
  | .field t x f => match P.underlying t with
    | some (.struct fs) => (fs[f]?).bind fun d => (P.info? d.type).bind fun i => (P.underlying d.type).bind fun u => (opd x).map fun x => if isAggD u then .fieldn d.offset i.size x else .field1 d.offset x
    | _ => none
  | .indexAddr t x i => match P.underlying t with
    | some (.slice e) => (P.info? e).bind fun d => (opd x).bind fun x => (opd i).map fun i => .iaddr d.size x i
    | _ => none
  | .index t x i => match P.underlying t with
    | some .string => (opd x).bind fun x => (opd i).map fun i => .sidx x i
    | _ => none
  | .extract x k => (opd x).map fun x => .extract x k
  | .call c => compCall P c
  | _ => none

end Go.Proofs.Ytmfiegjncfgohaa.Den
