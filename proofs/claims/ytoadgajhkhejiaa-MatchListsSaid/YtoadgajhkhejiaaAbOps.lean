/- The operations of the abstract layer: what each answers over abstract values, and that the model's own operation answers a value for which that stands. No condition. -/
import Derived.Test.YtoadgajhkhejiaaAbBase
namespace Go.Ab
open Go
def cval : Value → AV
  | .slice none 0 0 => .nils
  | .agg cs => .agg (cs.toList.map .pl)
  | v => .pl v
def AV.one : AV → Bool
  | .pl v => v.oneCell'
  | .any | .agg _ | .tup _ => false
  | _ => true
def AV.okc : AV → Bool
  | .agg cs => cs.all AV.one
  | v => v.one
def lsplice {α : Type} (l : List α) (k : Nat) (vs : List α) : List α := l.take k ++ vs ++ l.drop (k + vs.length)
abbrev Part := Nat × Nat × Operand
inductive Leaf where
  | int | str | bool
inductive AO where
  | mov (x : Operand)
  | pick (c a b : Operand)
  | boxr (x : Operand)
  | boxm (x : Operand)
  | allocm (z : List AV)
  | build (z : List AV) (ps : List Part)
  | bsl (own : Bool) (sz : Nat) (ag : Bool) (n : Nat) (z : List AV) (ps : List Part)
  | load (n : Nat) (ag : Bool) (x : Operand)
  | store (n : Nat) (a x : Operand)
  | nilc (x : Operand)
  | bin (bl : Bool) (op : BinOp) (x y : Operand)
  | eqa (neg : Bool) (ks : List Leaf) (x y : Operand)
  | un (op : UnOp) (x : Operand)
  | convi (k : IntKind) (x : Operand)
  | field (off n : Nat) (ag : Bool) (x : Operand)
  | idxs (x i : Operand)
  | idxa (sz len : Nat) (ag : Bool) (x i : Operand)
  | fadr (off : Nat) (x : Operand)
  | iadrs (sz : Nat) (x i : Operand)
  | iadra (sz len : Nat) (x i : Operand)
  | con (v : Value)
  | lens (x : Operand)
  | lenv (x : Operand)
  | extr (i : Nat) (x : Operand)
  | mkfn (f : FuncId) (fs cs : List Operand)
  | app (sz : Nat) (x y : Operand)
  | slcs (x : Operand) (lo hi : Option Operand)
  | slcv (sz : Nat) (x : Operand) (lo hi : Option Operand)
  | bad
  | s2b (x : Operand)
  | b2s (x : Operand)
  | s2s (x : Operand)
  | strm (x : Operand)
  | mks (sz : Nat) (ag : Bool) (z : List AV) (x y : Operand)
  | capn (x : Operand)
  | mm (big : Bool) (x y : Operand)
  | copy (x y : Operand)
  | slca (len : Nat) (x : Operand)
  | arrp (len : Nat) (x : Operand)
  | slc0 (x : Operand)
  | appz (sz : Nat) (ag : Bool) (z : List AV) (x y : Operand)
  | slco (sz : Nat) (x : Operand) (lo hi : Option Operand)
  | isnil (neg ptr : Bool) (x : Operand)
  | giadr (g sz len : Nat) (i : Operand)
  | slcw (sz : Nat) (x lo : Operand)
  | clr (sz : Nat) (ag : Bool) (z : List AV) (x : Operand)
section
variable (ρ : Operand → AV) (σ : St)
def ldc (n : Nat) (ag : Bool) (cs : List AV) : Option AV :=
  if ag then (if n ≤ cs.length then some (.agg (cs.take n)) else none) else cs.head?
def loadA (n : Nat) (ag : Bool) : AV → Option AV
  | .rp cs => ldc n ag cs
  | .ptr l off => match σ[l]? with
    | some (.box cs) => ldc n ag (cs.drop off)
    | _ => none
  | .ep l m i off => match σ[l]? with
    | some (.row _ xs) => if m = xs.length then (match xs[i]? with
      | some x => ldc n ag (x.cells.drop off)
      | none => none) else none
    | _ => none
  | _ => none
def setElem (x : AV) (off : Nat) (vs : List AV) : Option AV :=
  match x with
  | .agg cs => if off + vs.length ≤ cs.length then some (.agg (lsplice cs off vs)) else none
  | x => if off = 0 ∧ x.one then (match vs with | [v] => if v.one then some v else none | _ => none) else none
def fillA (ρ : Operand → AV) : List AV → List Part → Option (List AV)
  | z, [] => some z
  | z, (off, size, x) :: ps =>
    if (ρ x).okc ∧ (ρ x).cells.length = size ∧ off + size ≤ z.length then fillA ρ (lsplice z off (ρ x).cells) ps else none
def chunks (n : Nat) (ag : Bool) : Nat → List AV → List AV
  | 0, _ => []
  | k + 1, cs => (if ag then .agg (cs.take n) else cs.headD .any) :: chunks n ag k (cs.drop n)
def repeatA (z : List AV) : Nat → List AV
  | 0 => []
  | k + 1 => z ++ repeatA z k
def isB : Value → Bool
  | .bool _ => true
  | _ => false
def binF (op : BinOp) (x y : Value) : Option Value :=
  match op, x, y with
  | .shl, .int k a, .int _ b => if 0 ≤ b then some (.int k (k.wrap (a * 2 ^ (min b.toNat k.bits)))) else none
  | .shr, .int k a, .int _ b => if 0 ≤ b then some (.int k (a.fdiv (2 ^ (min b.toNat k.bits)))) else none
  | op, .int k a, .int k' b =>
    if k = k' then
      match op with
      | .add => some (.int k (k.wrap (a + b)))
      | .sub => some (.int k (k.wrap (a - b)))
      | .mul => some (.int k (k.wrap (a * b)))
      | .quo => if b = 0 then none else some (.int k (k.wrap (a.tdiv b)))
      | .rem => if b = 0 then none else some (.int k (a.tmod b))
      | .and => some (.int k (k.wrap (BitVec.ofInt k.bits a &&& BitVec.ofInt k.bits b).toNat))
      | .or => some (.int k (k.wrap (BitVec.ofInt k.bits a ||| BitVec.ofInt k.bits b).toNat))
      | .xor => some (.int k (k.wrap (BitVec.ofInt k.bits a ^^^ BitVec.ofInt k.bits b).toNat))
      | .andNot => some (.int k (k.wrap (BitVec.ofInt k.bits a &&& ~~~ BitVec.ofInt k.bits b).toNat))
      | .eql => some (.bool (a == b))
      | .neq => some (.bool (a != b))
      | .lss => some (.bool (decide (a < b)))
      | .leq => some (.bool (decide (a ≤ b)))
      | .gtr => some (.bool (decide (b < a)))
      | .geq => some (.bool (decide (b ≤ a)))
      | _ => none
    else none
  | op, .float k a, .float k' b =>
    if k = k' then
      match op with
      | .eql => some (.bool (k.format.order a b == some .eq))
      | .neq => some (.bool (k.format.order a b != some .eq))
      | .lss => some (.bool (k.format.order a b == some .lt))
      | .leq => some (.bool (k.format.order a b == some .lt || k.format.order a b == some .eq))
      | .gtr => some (.bool (k.format.order a b == some .gt))
      | .geq => some (.bool (k.format.order a b == some .gt || k.format.order a b == some .eq))
      | _ => none
    else none
  | op, .string a, .string b =>
    match op with
    | .eql => some (.bool (a.toList == b.toList))
    | .neq => some (.bool (!(a.toList == b.toList)))
    | .lss => some (.bool (Op.bytesLess a.toList b.toList))
    | .leq => some (.bool (Op.bytesLess a.toList b.toList || a.toList == b.toList))
    | .gtr => some (.bool (!(Op.bytesLess a.toList b.toList || a.toList == b.toList)))
    | .geq => some (.bool (!Op.bytesLess a.toList b.toList))
    | _ => none
  | .eql, .bool a, .bool b => some (.bool (a == b))
  | .neq, .bool a, .bool b => some (.bool (!(a == b)))
  | _, _, _ => none
def eqCell : Leaf → AV → AV → Option Bool
  | .int, .pl (.int k a), .pl (.int k' b) => if k = k' then some (a == b) else none
  | .str, .pl (.string a), .pl (.string b) => some (a.toList == b.toList)
  | .bool, .pl (.bool a), .pl (.bool b) => some (a == b)
  | _, _, _ => none
def eqCells : List Leaf → List AV → List AV → Option Bool
  | [], [], [] => some true
  | k :: ks, x :: xs, y :: ys =>
    match eqCell k x y, eqCells ks xs ys with
    | some a, some b => some (a && b)
    | _, _ => none
  | _, _, _ => none
def unF (op : UnOp) (x : Value) : Option Value :=
  match op, x with
  | .neg, .int k n => some (.int k (k.wrap (0 - n)))
  | .neg, .float k b => some (.float k (Op.negFloat k b))
  | .xor, .int k n => some (.int k (k.wrap (BitVec.ofInt k.bits (if k.signed then -1 else k.max) ^^^ BitVec.ofInt k.bits n).toNat))
  | .not, .bool b => some (.bool !b)
  | _, _ => none
def boolA : AV → Option Bool
  | .pl (.bool b) => some b
  | _ => none
def intA : AV → Option Int
  | .pl (.int _ n) => some n
  | _ => none
def srcA (σ : St) (sz : Nat) : AV → Option (List AV)
  | .nils | .zsl => some []
  | .sl sz' ys => if sz = sz' ∧ ys.all (fun y => decide (y.cells.length = sz) && y.okc) then some ys else none
  | .osl l n => match σ[l]? with
    | some (.row sz' ys) => if sz = sz' ∧ n = ys.length ∧ ys.all (fun y => decide (y.cells.length = sz) && y.okc) then some ys else none
    | _ => none
  | .pl (.string s) => if sz = 1 then some (s.data.toList.map fun b => .pl (.int .u8 b.toNat)) else none
  | _ => none
def bytesA (s : ByteArray) : List AV := s.data.toList.map fun b => .pl (.int .u8 b.toNat)
def byteL : List AV → Option (List Int)
  | [] => some []
  | .pl (.int .u8 n) :: r => (byteL r).map (n :: ·)
  | _ => none
def textOf (ns : List Int) : ByteArray := ⟨(ns.map fun n => UInt8.ofNat n.toNat).toArray⟩
def AV.isStr : AV → Bool
  | .pl (.string _) => true
  | _ => false
def gloA : St → Nat → Option (List Value)
  | [], _ => none
  | .glo g vs :: s, k => if g = k then some vs else gloA s k
  | _ :: s, k => gloA s k
def nilA : Bool → AV → Option Bool
  | false, .nils => some true
  | false, .sl _ (_ :: _) => some false
  | true, .rp _ | true, .ptr _ _ | true, .ep _ _ _ _ => some false
  | true, .pl (.pointer none) => some true
  | _, _ => none
def nilA2 (σ : St) (p : Bool) : AV → Option Bool
  | .osl l n => match σ[l]? with
    | some (.row _ xs) => if p = false ∧ n = xs.length ∧ 0 < xs.length then some false else none
    | _ => none
  | v => nilA p v
def aop : AO → Option (AV × St)
  | .mov x => some (ρ x, σ)
  | .pick c a b => match boolA (ρ c) with
    | some t => some (if t then ρ a else ρ b, σ)
    | none => none
  | .boxr x => if (ρ x).okc then some (.rp (ρ x).cells, σ) else none
  | .boxm x => if (ρ x).okc then some (.ptr σ.length 0, σ ++ [.box (ρ x).cells]) else none
  | .allocm z => some (.ptr σ.length 0, σ ++ [.box z])
  | .build z ps => (fillA ρ z ps).map fun cs => (.agg cs, σ)
  | .bsl own sz ag n z ps => (fillA ρ (repeatA z n) ps).map fun cs =>
      if own then (.osl σ.length n, σ ++ [.row sz (chunks sz ag n cs)]) else (.sl sz (chunks sz ag n cs), σ)
  | .load n ag x => (loadA σ n ag (ρ x)).map (·, σ)
  | .store n a x => if (ρ x).okc ∧ (ρ x).cells.length = n then
      match ρ a with
      | .ptr l off => match σ[l]? with
        | some (.box cs) => if off + n ≤ cs.length then some (.any, σ.set l (.box (lsplice cs off (ρ x).cells))) else none
        | _ => none
      | .ep l m i off => match σ[l]? with
        | some (.row sz xs) => if m = xs.length then (match xs[i]? with
          | some e => (setElem e off (ρ x).cells).map fun e' => (.any, σ.set l (.row sz (xs.set i e')))
          | none => none) else none
        | _ => none
      | _ => none
    else none
  | .nilc x => match ρ x with
    | .rp cs => some (.rp cs, σ)
    | .ptr l off => some (.ptr l off, σ)
    | .ep l m i off => some (.ep l m i off, σ)
    | _ => none
  | .bin bl op x y => match ρ x, ρ y with
    | .pl u, .pl v => if bl = isB u then (binF op u v).map fun r => (.pl r, σ) else none
    | _, _ => none
  | .eqa neg ks x y => match ρ x, ρ y with
    | .agg xs, .agg ys => (eqCells ks xs ys).map fun b => (.pl (.bool (neg ^^ b)), σ)
    | _, _ => none
  | .un op x => match ρ x with
    | .pl u => (unF op u).map fun r => (.pl r, σ)
    | _ => none
  | .convi k x => match intA (ρ x) with
    | some n => some (.pl (.int k (k.wrap n)), σ)
    | none => none
  | .field off n ag x => match ρ x with
    | .agg cs => if off + n ≤ cs.length then (ldc n ag (cs.drop off)).map (·, σ) else none
    | _ => none
  | .idxs x i => match ρ x, intA (ρ i) with
    | .pl (.string s), some n => if 0 ≤ n ∧ n < s.size then some (.pl (.int .u8 (s.data.toList.getD n.toNat 0).toNat), σ) else none
    | _, _ => none
  | .idxa sz len ag x i => match ρ x, intA (ρ i) with
    | .agg cs, some n => if 0 ≤ n ∧ n < len ∧ (n.toNat + 1) * sz ≤ cs.length then (ldc sz ag (cs.drop (n.toNat * sz))).map (·, σ) else none
    | _, _ => none
  | .fadr off x => match ρ x with
    | .rp cs => some (.rp (cs.drop off), σ)
    | .ptr l o => some (.ptr l (o + off), σ)
    | .ep l m i o => some (.ep l m i (o + off), σ)
    | _ => none
  | .iadrs sz x i => match ρ x, intA (ρ i) with
    | .sl sz' xs, some n => if sz = sz' ∧ 0 ≤ n then (match xs[n.toNat]? with
      | some e => some (.rp e.cells, σ)
      | none => none) else none
    | .osl l m, some n => match σ[l]? with
      | some (.row sz' xs) => if sz = sz' ∧ m = xs.length ∧ 0 ≤ n ∧ n < m then some (.ep l m n.toNat 0, σ) else none
      | _ => none
    | _, _ => none
  | .iadra sz len x i => match intA (ρ i) with
    | some n => if 0 ≤ n ∧ n < len then (match ρ x with
      | .rp cs => some (.rp (cs.drop (n.toNat * sz)), σ)
      | .ptr l o => some (.ptr l (o + n.toNat * sz), σ)
      | .ep l m j o => some (.ep l m j (o + n.toNat * sz), σ)
      | _ => none) else none
    | none => none
  | .con v => some (cval v, σ)
  | .lens x => match ρ x with
    | .pl (.string s) => some (.pl (.int .i64 s.size), σ)
    | _ => none
  | .lenv x => match ρ x with
    | .nils => some (.pl (.int .i64 0), σ)
    | .zsl => some (.pl (.int .i64 0), σ)
    | .psl _ _ n => some (.pl (.int .i64 n), σ)
    | .sl _ xs => some (.pl (.int .i64 xs.length), σ)
    | .osl l n => match σ[l]? with
      | some (.row _ xs) => if n = xs.length then some (.pl (.int .i64 n), σ) else none
      | _ => none
    | _ => none
  | .extr i x => match ρ x with
    | .tup cs => cs[i]?.map (·, σ)
    | _ => none
  | .mkfn f fs cs => some (.fn f (fs.map ρ) (cs.map ρ), σ)
  | .app sz x y => match srcA σ sz (ρ y) with
    | some ys => match ρ x with
      | .nils => if ys.isEmpty then some (.nils, σ) else if ys.length ≤ 2 ^ 32 then some (.osl σ.length ys.length, σ ++ [.row sz ys]) else none
      | .zsl => if ys.isEmpty then some (.zsl, σ) else if ys.length ≤ 2 ^ 32 then some (.osl σ.length ys.length, σ ++ [.row sz ys]) else none
      | .osl l n => match σ[l]? with
        | some (.row sz' xs) => if sz = sz' ∧ n = xs.length ∧ n + ys.length ≤ 2 ^ 32 then some (.osl l (n + ys.length), σ.set l (.row sz (xs ++ ys))) else none
        | _ => none
      | _ => none
    | none => none
  | .slcs x lo hi => match ρ x with
    | .pl (.string s) => match (lo.map fun o => intA (ρ o)).getD (some 0), (hi.map fun o => intA (ρ o)).getD (some s.size) with
      | some l, some h => if 0 ≤ l ∧ l ≤ h ∧ h ≤ s.size then some (.pl (.string (s.extract l.toNat h.toNat)), σ) else none
      | _, _ => none
    | _ => none
  | .slcv sz x lo hi => match ρ x with
    | .sl sz' xs => match (lo.map fun o => intA (ρ o)).getD (some 0), (hi.map fun o => intA (ρ o)).getD (some xs.length) with
      | some l, some h => if sz = sz' ∧ 0 ≤ l ∧ l ≤ h ∧ h ≤ xs.length then some (.sl sz ((xs.take h.toNat).drop l.toNat), σ) else none
      | _, _ => none
    | _ => none
  | .bad => none
  | .s2b x => match ρ x with
    | .pl (.string s) => some (.sl 1 (bytesA s), σ)
    | _ => none
  | .b2s x => if (ρ x).isStr then none else match srcA σ 1 (ρ x) with
    | some ys => (byteL ys).map fun ns => (.pl (.string (textOf ns)), σ)
    | none => none
  | .s2s x => match ρ x with
    | .pl (.string s) => some (.pl (.string s), σ)
    | _ => none
  | .strm x => match ρ x with
    | .osl l n => match σ[l]? with
      | some (.row sz xs) => if n = xs.length ∧ 0 < xs.length then some (.sl sz xs, σ.set l .dead) else none
      | _ => none
    | _ => none
  | .mks sz ag z x y => match intA (ρ x), intA (ρ y) with
    | some l, some c => if 0 ≤ l ∧ l ≤ c ∧ c ≤ 4294967296 then some (.osl σ.length l.toNat, σ ++ [.row sz ((chunks sz ag c.toNat (repeatA z c.toNat)).take l.toNat)]) else none
    | _, _ => none
  | .capn x => match ρ x with
    | .nils => some (.pl (.int .i64 0), σ)
    | _ => none
  | .mm big x y => match ρ x, ρ y with
    | .pl (.int k a), .pl (.int k' b) => if k = k' then some (.pl (.int k (if big then (if b > a then b else a) else (if b < a then b else a))), σ) else none
    | _, _ => none
  | .copy x y => match srcA σ 1 (ρ y) with
    | some ys => match ρ x with
      | .osl l n => match σ[l]? with
        | some (.row sz xs) => if sz = 1 ∧ n = xs.length then some (.pl (.int .i64 (Nat.min ys.length n : Nat)), σ.set l (.row 1 (ys.take (Nat.min ys.length n) ++ xs.drop (Nat.min ys.length n)))) else none
        | _ => none
      | .psl l off n => match σ[l]? with
        | some (.box cs) => if off + n ≤ cs.length ∧ ys.all AV.one then some (.pl (.int .i64 (Nat.min ys.length n : Nat)), σ.set l (.box (lsplice cs off (ys.take (Nat.min ys.length n))))) else none
        | _ => none
      | _ => none
    | none => none
  | .slca len x => match ρ x with
    | .rp cs => if len ≤ cs.length ∧ (cs.take len).all AV.one then some (.sl 1 (cs.take len), σ) else none
    | .ptr l off => some (.psl l off len, σ)
    | _ => none
  | .arrp len x => match ρ x with
    | .sl sz xs => if sz = 1 ∧ 0 < len ∧ len ≤ xs.length ∧ xs.all AV.one then some (.rp (xs.take len), σ) else none
    | _ => none
  | .slc0 x => match ρ x with
    | .nils => some (.nils, σ)
    | .zsl => some (.zsl, σ)
    | .sl _ _ => some (.zsl, σ)
    | .osl _ _ => some (.zsl, σ)
    | _ => none
  | .appz sz ag z x y => match ρ x, intA (ρ y) with
    | .nils, some n => if n = 0 then some (.nils, σ) else if 0 < n ∧ n ≤ 4294967296 then some (.osl σ.length n.toNat, σ ++ [.row sz (chunks sz ag n.toNat (repeatA z n.toNat))]) else none
    | _, _ => none
  | .slco sz x lo hi => match ρ x with
    | .nils => match (lo.map fun o => intA (ρ o)).getD (some 0), (hi.map fun o => intA (ρ o)).getD (some 0) with
      | some l, some h => if l = 0 ∧ h = 0 then some (.nils, σ) else none
      | _, _ => none
    | .osl k n => match σ[k]? with
      | some (.row sz' xs) => match (lo.map fun o => intA (ρ o)).getD (some 0), (hi.map fun o => intA (ρ o)).getD (some xs.length) with
        | some l, some h => if sz = sz' ∧ n = xs.length ∧ 0 ≤ l ∧ l ≤ h ∧ h ≤ xs.length then some (.osl σ.length (h.toNat - l.toNat), σ.set k .dead ++ [.row sz ((xs.take h.toNat).drop l.toNat)]) else none
        | _, _ => none
      | _ => none
    | _ => none
  | .giadr g sz len i => match gloA σ g, intA (ρ i) with
    | some vs, some n => if 0 ≤ n ∧ n < len then some (.rp ((vs.drop (n.toNat * sz)).map .pl), σ) else none
    | _, _ => none
  | .slcw sz x lo => match ρ x, intA (ρ lo) with
    | .osl l n, some i => match σ[l]? with
      | some (.row sz' xs) => if sz = sz' ∧ n = xs.length ∧ 0 ≤ i ∧ i < xs.length then some (.win sz l n i.toNat, σ) else none
      | _ => none
    | _, _ => none
  | .clr sz ag z x => match ρ x with
    | .win sz' l n lo => match σ[l]? with
      | some (.row sz'' xs) => if sz = sz' ∧ sz = sz'' ∧ n = xs.length ∧ lo < xs.length then some (.tup [], σ.set l (.row sz (xs.take lo ++ chunks sz ag (xs.length - lo) (repeatA z (xs.length - lo))))) else none
      | _ => none
    | _ => none
  | .isnil neg ptr x => (nilA2 σ ptr (ρ x)).map fun b => (.pl (.bool (neg ^^ b)), σ)
end
end Go.Ab
