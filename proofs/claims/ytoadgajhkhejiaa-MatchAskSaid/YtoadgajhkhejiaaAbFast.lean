/- The evaluator once more, laid so that the kernel reckons it cheaply: it answers what the first one answers. No condition. -/
import Derived.Test.YtoadgajhkhejiaaAbEval
set_option linter.unusedSimpArgs false
set_option linter.unusedVariables false
set_option linter.unusedSimpArgs false
namespace Go.Ab
open Go

/-- The operations, each by itself. -/
def aop_mov (ρ : Operand → AV) (σ : St) (x : Operand) : Option (AV × St) := some (ρ x, σ)

def aop_pick (ρ : Operand → AV) (σ : St) (c : Operand) (a : Operand) (b : Operand) : Option (AV × St) := match boolA (ρ c) with
    | some t => some (if t then ρ a else ρ b, σ)
    | none => none

def aop_boxr (ρ : Operand → AV) (σ : St) (x : Operand) : Option (AV × St) := if (ρ x).okc then some (.rp (ρ x).cells, σ) else none

def aop_boxm (ρ : Operand → AV) (σ : St) (x : Operand) : Option (AV × St) := if (ρ x).okc then some (.ptr σ.length 0, σ ++ [.box (ρ x).cells]) else none

def aop_allocm (ρ : Operand → AV) (σ : St) (z : List AV) : Option (AV × St) := some (.ptr σ.length 0, σ ++ [.box z])

def aop_build (ρ : Operand → AV) (σ : St) (z : List AV) (ps : List Part) : Option (AV × St) := (fillA ρ z ps).map fun cs => (.agg cs, σ)

def aop_bsl (ρ : Operand → AV) (σ : St) (own : Bool) (sz : Nat) (ag : Bool) (n : Nat) (z : List AV) (ps : List Part) : Option (AV × St) := (fillA ρ (repeatA z n) ps).map fun cs =>
      if own then (.osl σ.length n, σ ++ [.row sz (chunks sz ag n cs)]) else (.sl sz (chunks sz ag n cs), σ)

def aop_load (ρ : Operand → AV) (σ : St) (n : Nat) (ag : Bool) (x : Operand) : Option (AV × St) := (loadA σ n ag (ρ x)).map (·, σ)

def aop_store (ρ : Operand → AV) (σ : St) (n : Nat) (a : Operand) (x : Operand) : Option (AV × St) := if (ρ x).okc ∧ (ρ x).cells.length = n then
      match ρ a with
      | .ptr l off => match σ[l]? with
        | some (.box cs) => if off + n ≤ cs.length then some (.any, σ.set l (.box (lsplice cs off (ρ x).cells))) else none
        | _ => none
      | .ep l m i off => match σ[l]? with
        | some (.row sz xs) => if m = xs.length then (match xs[i]? with
          | some e => (setElem e off (ρ x).cells).map fun e' => (.any, σ.set l (.row sz (xs.set i e')))
          | none => none) else none
        | _ => none
      | _ => none
    else none

def aop_nilc (ρ : Operand → AV) (σ : St) (x : Operand) : Option (AV × St) := match ρ x with
    | .rp cs => some (.rp cs, σ)
    | .ptr l off => some (.ptr l off, σ)
    | .ep l m i off => some (.ep l m i off, σ)
    | _ => none

def aop_bin (ρ : Operand → AV) (σ : St) (bl : Bool) (op : BinOp) (x : Operand) (y : Operand) : Option (AV × St) := match ρ x, ρ y with
    | .pl u, .pl v => if bl = isB u then (binF op u v).map fun r => (.pl r, σ) else none
    | _, _ => none

def aop_eqa (ρ : Operand → AV) (σ : St) (neg : Bool) (ks : List Leaf) (x : Operand) (y : Operand) : Option (AV × St) := match ρ x, ρ y with
    | .agg xs, .agg ys => (eqCells ks xs ys).map fun b => (.pl (.bool (neg ^^ b)), σ)
    | _, _ => none

def aop_un (ρ : Operand → AV) (σ : St) (op : UnOp) (x : Operand) : Option (AV × St) := match ρ x with
    | .pl u => (unF op u).map fun r => (.pl r, σ)
    | _ => none

def aop_convi (ρ : Operand → AV) (σ : St) (k : IntKind) (x : Operand) : Option (AV × St) := match intA (ρ x) with
    | some n => some (.pl (.int k (k.wrap n)), σ)
    | none => none

def aop_field (ρ : Operand → AV) (σ : St) (off : Nat) (n : Nat) (ag : Bool) (x : Operand) : Option (AV × St) := match ρ x with
    | .agg cs => if off + n ≤ cs.length then (ldc n ag (cs.drop off)).map (·, σ) else none
    | _ => none

def aop_idxs (ρ : Operand → AV) (σ : St) (x : Operand) (i : Operand) : Option (AV × St) := match ρ x, intA (ρ i) with
    | .pl (.string s), some n => if 0 ≤ n ∧ n < s.size then some (.pl (.int .u8 (s.data.toList.getD n.toNat 0).toNat), σ) else none
    | _, _ => none

def aop_idxa (ρ : Operand → AV) (σ : St) (sz : Nat) (len : Nat) (ag : Bool) (x : Operand) (i : Operand) : Option (AV × St) := match ρ x, intA (ρ i) with
    | .agg cs, some n => if 0 ≤ n ∧ n < len ∧ (n.toNat + 1) * sz ≤ cs.length then (ldc sz ag (cs.drop (n.toNat * sz))).map (·, σ) else none
    | _, _ => none

def aop_fadr (ρ : Operand → AV) (σ : St) (off : Nat) (x : Operand) : Option (AV × St) := match ρ x with
    | .rp cs => some (.rp (cs.drop off), σ)
    | .ptr l o => some (.ptr l (o + off), σ)
    | .ep l m i o => some (.ep l m i (o + off), σ)
    | _ => none

def aop_iadrs (ρ : Operand → AV) (σ : St) (sz : Nat) (x : Operand) (i : Operand) : Option (AV × St) := match ρ x, intA (ρ i) with
    | .sl sz' xs, some n => if sz = sz' ∧ 0 ≤ n then (match xs[n.toNat]? with
      | some e => some (.rp e.cells, σ)
      | none => none) else none
    | .osl l m, some n => match σ[l]? with
      | some (.row sz' xs) => if sz = sz' ∧ m = xs.length ∧ 0 ≤ n ∧ n < m then some (.ep l m n.toNat 0, σ) else none
      | _ => none
    | _, _ => none

def aop_iadra (ρ : Operand → AV) (σ : St) (sz : Nat) (len : Nat) (x : Operand) (i : Operand) : Option (AV × St) := match intA (ρ i) with
    | some n => if 0 ≤ n ∧ n < len then (match ρ x with
      | .rp cs => some (.rp (cs.drop (n.toNat * sz)), σ)
      | .ptr l o => some (.ptr l (o + n.toNat * sz), σ)
      | .ep l m j o => some (.ep l m j (o + n.toNat * sz), σ)
      | _ => none) else none
    | none => none

def aop_con (ρ : Operand → AV) (σ : St) (v : Value) : Option (AV × St) := some (cval v, σ)

def aop_lens (ρ : Operand → AV) (σ : St) (x : Operand) : Option (AV × St) := match ρ x with
    | .pl (.string s) => some (.pl (.int .i64 s.size), σ)
    | _ => none

def aop_lenv (ρ : Operand → AV) (σ : St) (x : Operand) : Option (AV × St) := match ρ x with
    | .nils => some (.pl (.int .i64 0), σ)
    | .zsl => some (.pl (.int .i64 0), σ)
    | .psl _ _ n => some (.pl (.int .i64 n), σ)
    | .sl _ xs => some (.pl (.int .i64 xs.length), σ)
    | .osl l n => match σ[l]? with
      | some (.row _ xs) => if n = xs.length then some (.pl (.int .i64 n), σ) else none
      | _ => none
    | _ => none

def aop_extr (ρ : Operand → AV) (σ : St) (i : Nat) (x : Operand) : Option (AV × St) := match ρ x with
    | .tup cs => cs[i]?.map (·, σ)
    | _ => none

def aop_mkfn (ρ : Operand → AV) (σ : St) (f : FuncId) (fs : List Operand) (cs : List Operand) : Option (AV × St) := some (.fn f (fs.map ρ) (cs.map ρ), σ)

def aop_app (ρ : Operand → AV) (σ : St) (sz : Nat) (x : Operand) (y : Operand) : Option (AV × St) := match srcA σ sz (ρ y) with
    | some ys => match ρ x with
      | .nils => if ys.isEmpty then some (.nils, σ) else if ys.length ≤ 2 ^ 32 then some (.osl σ.length ys.length, σ ++ [.row sz ys]) else none
      | .zsl => if ys.isEmpty then some (.zsl, σ) else if ys.length ≤ 2 ^ 32 then some (.osl σ.length ys.length, σ ++ [.row sz ys]) else none
      | .osl l n => match σ[l]? with
        | some (.row sz' xs) => if sz = sz' ∧ n = xs.length ∧ n + ys.length ≤ 2 ^ 32 then some (.osl l (n + ys.length), σ.set l (.row sz (xs ++ ys))) else none
        | _ => none
      | _ => none
    | none => none

def aop_slcs (ρ : Operand → AV) (σ : St) (x : Operand) (lo : Option Operand) (hi : Option Operand) : Option (AV × St) := match ρ x with
    | .pl (.string s) => match (lo.map fun o => intA (ρ o)).getD (some 0), (hi.map fun o => intA (ρ o)).getD (some s.size) with
      | some l, some h => if 0 ≤ l ∧ l ≤ h ∧ h ≤ s.size then some (.pl (.string (s.extract l.toNat h.toNat)), σ) else none
      | _, _ => none
    | _ => none

def aop_slcv (ρ : Operand → AV) (σ : St) (sz : Nat) (x : Operand) (lo : Option Operand) (hi : Option Operand) : Option (AV × St) := match ρ x with
    | .sl sz' xs => match (lo.map fun o => intA (ρ o)).getD (some 0), (hi.map fun o => intA (ρ o)).getD (some xs.length) with
      | some l, some h => if sz = sz' ∧ 0 ≤ l ∧ l ≤ h ∧ h ≤ xs.length then some (.sl sz ((xs.take h.toNat).drop l.toNat), σ) else none
      | _, _ => none
    | _ => none

def aop_bad (ρ : Operand → AV) (σ : St)  : Option (AV × St) := none

def aop_s2b (ρ : Operand → AV) (σ : St) (x : Operand) : Option (AV × St) := match ρ x with
    | .pl (.string s) => some (.sl 1 (bytesA s), σ)
    | _ => none

def aop_b2s (ρ : Operand → AV) (σ : St) (x : Operand) : Option (AV × St) := if (ρ x).isStr then none else match srcA σ 1 (ρ x) with
    | some ys => (byteL ys).map fun ns => (.pl (.string (textOf ns)), σ)
    | none => none

def aop_s2s (ρ : Operand → AV) (σ : St) (x : Operand) : Option (AV × St) := match ρ x with
    | .pl (.string s) => some (.pl (.string s), σ)
    | _ => none

def aop_strm (ρ : Operand → AV) (σ : St) (x : Operand) : Option (AV × St) := match ρ x with
    | .osl l n => match σ[l]? with
      | some (.row sz xs) => if n = xs.length ∧ 0 < xs.length then some (.sl sz xs, σ.set l .dead) else none
      | _ => none
    | _ => none

def aop_mks (ρ : Operand → AV) (σ : St) (sz : Nat) (ag : Bool) (z : List AV) (x : Operand) (y : Operand) : Option (AV × St) := match intA (ρ x), intA (ρ y) with
    | some l, some c => if 0 ≤ l ∧ l ≤ c ∧ c ≤ 4294967296 then some (.osl σ.length l.toNat, σ ++ [.row sz ((chunks sz ag c.toNat (repeatA z c.toNat)).take l.toNat)]) else none
    | _, _ => none

def aop_capn (ρ : Operand → AV) (σ : St) (x : Operand) : Option (AV × St) := match ρ x with
    | .nils => some (.pl (.int .i64 0), σ)
    | _ => none

def aop_mm (ρ : Operand → AV) (σ : St) (big : Bool) (x : Operand) (y : Operand) : Option (AV × St) := match ρ x, ρ y with
    | .pl (.int k a), .pl (.int k' b) => if k = k' then some (.pl (.int k (if big then (if b > a then b else a) else (if b < a then b else a))), σ) else none
    | _, _ => none

def aop_copy (ρ : Operand → AV) (σ : St) (x : Operand) (y : Operand) : Option (AV × St) := match srcA σ 1 (ρ y) with
    | some ys => match ρ x with
      | .osl l n => match σ[l]? with
        | some (.row sz xs) => if sz = 1 ∧ n = xs.length then some (.pl (.int .i64 (Nat.min ys.length n : Nat)), σ.set l (.row 1 (ys.take (Nat.min ys.length n) ++ xs.drop (Nat.min ys.length n)))) else none
        | _ => none
      | .psl l off n => match σ[l]? with
        | some (.box cs) => if off + n ≤ cs.length ∧ ys.all AV.one then some (.pl (.int .i64 (Nat.min ys.length n : Nat)), σ.set l (.box (lsplice cs off (ys.take (Nat.min ys.length n))))) else none
        | _ => none
      | _ => none
    | none => none

def aop_slca (ρ : Operand → AV) (σ : St) (len : Nat) (x : Operand) : Option (AV × St) := match ρ x with
    | .rp cs => if len ≤ cs.length ∧ (cs.take len).all AV.one then some (.sl 1 (cs.take len), σ) else none
    | .ptr l off => some (.psl l off len, σ)
    | _ => none

def aop_arrp (ρ : Operand → AV) (σ : St) (len : Nat) (x : Operand) : Option (AV × St) := match ρ x with
    | .sl sz xs => if sz = 1 ∧ 0 < len ∧ len ≤ xs.length ∧ xs.all AV.one then some (.rp (xs.take len), σ) else none
    | _ => none

def aop_slc0 (ρ : Operand → AV) (σ : St) (x : Operand) : Option (AV × St) := match ρ x with
    | .nils => some (.nils, σ)
    | .zsl => some (.zsl, σ)
    | .sl _ _ => some (.zsl, σ)
    | .osl _ _ => some (.zsl, σ)
    | _ => none

def aop_appz (ρ : Operand → AV) (σ : St) (sz : Nat) (ag : Bool) (z : List AV) (x : Operand) (y : Operand) : Option (AV × St) := match ρ x, intA (ρ y) with
    | .nils, some n => if n = 0 then some (.nils, σ) else if 0 < n ∧ n ≤ 4294967296 then some (.osl σ.length n.toNat, σ ++ [.row sz (chunks sz ag n.toNat (repeatA z n.toNat))]) else none
    | _, _ => none

def aop_slco (ρ : Operand → AV) (σ : St) (sz : Nat) (x : Operand) (lo : Option Operand) (hi : Option Operand) : Option (AV × St) := match ρ x with
    | .nils => match (lo.map fun o => intA (ρ o)).getD (some 0), (hi.map fun o => intA (ρ o)).getD (some 0) with
      | some l, some h => if l = 0 ∧ h = 0 then some (.nils, σ) else none
      | _, _ => none
    | .osl k n => match σ[k]? with
      | some (.row sz' xs) => match (lo.map fun o => intA (ρ o)).getD (some 0), (hi.map fun o => intA (ρ o)).getD (some xs.length) with
        | some l, some h => if sz = sz' ∧ n = xs.length ∧ 0 ≤ l ∧ l ≤ h ∧ h ≤ xs.length then some (.osl σ.length (h.toNat - l.toNat), σ.set k .dead ++ [.row sz ((xs.take h.toNat).drop l.toNat)]) else none
        | _, _ => none
      | _ => none
    | _ => none

def aop_giadr (ρ : Operand → AV) (σ : St) (g : Nat) (sz : Nat) (len : Nat) (i : Operand) : Option (AV × St) := match gloA σ g, intA (ρ i) with
    | some vs, some n => if 0 ≤ n ∧ n < len then some (.rp ((vs.drop (n.toNat * sz)).map .pl), σ) else none
    | _, _ => none

def aop_slcw (ρ : Operand → AV) (σ : St) (sz : Nat) (x : Operand) (lo : Operand) : Option (AV × St) := match ρ x, intA (ρ lo) with
    | .osl l n, some i => match σ[l]? with
      | some (.row sz' xs) => if sz = sz' ∧ n = xs.length ∧ 0 ≤ i ∧ i < xs.length then some (.win sz l n i.toNat, σ) else none
      | _ => none
    | _, _ => none

def aop_clr (ρ : Operand → AV) (σ : St) (sz : Nat) (ag : Bool) (z : List AV) (x : Operand) : Option (AV × St) := match ρ x with
    | .win sz' l n lo => match σ[l]? with
      | some (.row sz'' xs) => if sz = sz' ∧ sz = sz'' ∧ n = xs.length ∧ lo < xs.length then some (.tup [], σ.set l (.row sz (xs.take lo ++ chunks sz ag (xs.length - lo) (repeatA z (xs.length - lo))))) else none
      | _ => none
    | _ => none

def aop_isnil (ρ : Operand → AV) (σ : St) (neg : Bool) (ptr : Bool) (x : Operand) : Option (AV × St) := (nilA2 σ ptr (ρ x)).map fun b => (.pl (.bool (neg ^^ b)), σ)

noncomputable def aopT : AO → (Operand → AV) → St → Option (AV × St) := fun ao => AO.rec (motive := fun _ => (Operand → AV) → St → Option (AV × St)) (fun x ρ σ => aop_mov ρ σ x) (fun c a b ρ σ => aop_pick ρ σ c a b) (fun x ρ σ => aop_boxr ρ σ x) (fun x ρ σ => aop_boxm ρ σ x) (fun z ρ σ => aop_allocm ρ σ z) (fun z ps ρ σ => aop_build ρ σ z ps) (fun own sz ag n z ps ρ σ => aop_bsl ρ σ own sz ag n z ps) (fun n ag x ρ σ => aop_load ρ σ n ag x) (fun n a x ρ σ => aop_store ρ σ n a x) (fun x ρ σ => aop_nilc ρ σ x) (fun bl op x y ρ σ => aop_bin ρ σ bl op x y) (fun neg ks x y ρ σ => aop_eqa ρ σ neg ks x y) (fun op x ρ σ => aop_un ρ σ op x) (fun k x ρ σ => aop_convi ρ σ k x) (fun off n ag x ρ σ => aop_field ρ σ off n ag x) (fun x i ρ σ => aop_idxs ρ σ x i) (fun sz len ag x i ρ σ => aop_idxa ρ σ sz len ag x i) (fun off x ρ σ => aop_fadr ρ σ off x) (fun sz x i ρ σ => aop_iadrs ρ σ sz x i) (fun sz len x i ρ σ => aop_iadra ρ σ sz len x i) (fun v ρ σ => aop_con ρ σ v) (fun x ρ σ => aop_lens ρ σ x) (fun x ρ σ => aop_lenv ρ σ x) (fun i x ρ σ => aop_extr ρ σ i x) (fun f fs cs ρ σ => aop_mkfn ρ σ f fs cs) (fun sz x y ρ σ => aop_app ρ σ sz x y) (fun x lo hi ρ σ => aop_slcs ρ σ x lo hi) (fun sz x lo hi ρ σ => aop_slcv ρ σ sz x lo hi) (fun ρ σ => aop_bad ρ σ) (fun x ρ σ => aop_s2b ρ σ x) (fun x ρ σ => aop_b2s ρ σ x) (fun x ρ σ => aop_s2s ρ σ x) (fun x ρ σ => aop_strm ρ σ x) (fun sz ag z x y ρ σ => aop_mks ρ σ sz ag z x y) (fun x ρ σ => aop_capn ρ σ x) (fun big x y ρ σ => aop_mm ρ σ big x y) (fun x y ρ σ => aop_copy ρ σ x y) (fun len x ρ σ => aop_slca ρ σ len x) (fun len x ρ σ => aop_arrp ρ σ len x) (fun x ρ σ => aop_slc0 ρ σ x) (fun sz ag z x y ρ σ => aop_appz ρ σ sz ag z x y) (fun sz x lo hi ρ σ => aop_slco ρ σ sz x lo hi) (fun neg ptr x ρ σ => aop_isnil ρ σ neg ptr x) (fun g sz len i ρ σ => aop_giadr ρ σ g sz len i) (fun sz x lo ρ σ => aop_slcw ρ σ sz x lo) (fun sz ag z x ρ σ => aop_clr ρ σ sz ag z x) ao

noncomputable def aopF (ρ : Operand → AV) (σ : St) (ao : AO) : Option (AV × St) := aopT ao ρ σ

theorem aopF_eq (ρ : Operand → AV) (σ : St) (ao : AO) : aopF ρ σ ao = aop ρ σ ao := by cases ao <;> rfl

noncomputable def stillT : AO → Bool := fun ao => AO.rec (motive := fun _ => Bool) (fun _ => true) (fun _ _ _ => true) (fun _ => true) (fun _ => false) (fun _ => false) (fun _ _ => true) (fun own _ _ _ _ _ => !own) (fun _ _ _ => true) (fun _ _ _ => false) (fun _ => true) (fun _ _ _ _ => true) (fun _ _ _ _ => true) (fun _ _ => true) (fun _ _ => true) (fun _ _ _ _ => true) (fun _ _ => true) (fun _ _ _ _ _ => true) (fun _ _ => true) (fun _ _ _ => true) (fun _ _ _ _ => true) (fun _ => true) (fun _ => true) (fun _ => true) (fun _ _ => true) (fun _ _ _ => true) (fun _ _ _ => false) (fun _ _ _ => true) (fun _ _ _ _ => true) true (fun _ => true) (fun _ => true) (fun _ => true) (fun _ => false) (fun _ _ _ _ _ => false) (fun _ => true) (fun _ _ _ => true) (fun _ _ => false) (fun _ _ => true) (fun _ _ => true) (fun _ => true) (fun _ _ _ _ _ => false) (fun _ _ _ _ => false) (fun _ _ _ => true) (fun _ _ _ _ => true) (fun _ _ _ => true) (fun _ _ _ _ => false) ao

theorem stillT_eq (ao : AO) : stillT ao = ao.still := by
  cases ao <;> first | rfl | (rename_i own _ _ _ _ _; cases own <;> rfl)

noncomputable def nth (l : List AV) : Nat → AV := List.rec (motive := fun _ => Nat → AV) (fun _ => .any) (fun a _ ih n => Nat.rec (motive := fun _ => AV) a (fun m _ => ih m) n) l

theorem nth_eq : ∀ (l : List AV) (n : Nat), nth l n = l.getD n .any
  | [], _ => rfl
  | _ :: _, 0 => rfl
  | a :: as, n + 1 => by
    have : nth (a :: as) (n + 1) = nth as n := rfl
    rw [this, nth_eq as n]; simp

noncomputable def updC {α : Type} (v : AV) (l : List AV) : Nat → (List AV → α) → α :=
  List.rec (motive := fun _ => Nat → (List AV → α) → α) (fun _ k => k [])
    (fun a as ih n k => Nat.rec (motive := fun _ => α) (k (v :: as)) (fun m _ => ih m fun ys => k (a :: ys)) n) l

theorem updC_eq {α : Type} (v : AV) : ∀ (l : List AV) (n : Nat) (k : List AV → α), updC v l n k = k (l.set n v)
  | [], _, _ => rfl
  | _ :: _, 0, _ => rfl
  | a :: as, n + 1, k => by
    have : updC v (a :: as) (n + 1) k = updC v as n fun ys => k (a :: ys) := rfl
    rw [this, updC_eq v as n]; simp

noncomputable def frcR {α β : Type} (l : List β) : (List β → α) → α :=
  List.rec (motive := fun _ => (List β → α) → α) (fun k => k []) (fun x _ ih k => ih fun ys => k (x :: ys)) l

theorem frcR_eq {α β : Type} : ∀ (l : List β) (k : List β → α), frcR l k = k l
  | [], _ => rfl
  | x :: xs, k => by
    have : frcR (x :: xs) k = frcR xs fun ys => k (x :: ys) := rfl
    rw [this, frcR_eq xs]

abbrev Out := Option (Env × St)

/- A value brought to its form: each way by itself. -/
noncomputable def frcU : Value → (AV → Out) → Out := fun v => Value.rec (motive_1 := fun _ => (AV → Out) → Out) (motive_2 := fun _ => Unit) (motive_3 := fun _ => Unit)
  (fun b => Bool.rec (motive := fun _ => (AV → Out) → Out) (fun k => k (.pl (.bool false))) (fun k => k (.pl (.bool true))) b)
  (fun d n => Int.rec (motive := fun _ => (AV → Out) → Out) (fun m k => Nat.rec (motive := fun _ => Out) (k (.pl (.int d (.ofNat 0)))) (fun p _ => k (.pl (.int d (.ofNat (p + 1))))) m)
    (fun m k => Nat.rec (motive := fun _ => Out) (k (.pl (.int d (.negSucc 0)))) (fun p _ => k (.pl (.int d (.negSucc (p + 1))))) m) n)
  (fun d n k => Nat.rec (motive := fun _ => Out) (k (.pl (.float d 0))) (fun p _ => k (.pl (.float d (p + 1)))) n)
  (fun d a b k => k (.pl (.complex d a b)))
  (fun s k => frcR s.data.toList fun l => k (.pl (.string ⟨⟨l⟩⟩)))
  (fun a k => k (.pl (.pointer a)))
  (fun a n c k => k (.pl (.slice a n c)))
  (fun r k => k (.pl (.map r)))
  (fun r k => k (.pl (.chan r)))
  (fun f a b _ _ k => k (.pl (.func f a b)))
  (fun k => k (.pl .nilFunc))
  (fun t v _ k => k (.pl (.iface t v)))
  (fun k => k (.pl .nilIface))
  (fun cs _ k => k (.pl (.agg cs)))
  (fun cs _ k => k (.pl (.tuple cs)))
  (fun _ _ => ()) () (fun _ _ _ _ => ()) v

theorem frcU_eq (v : Value) (k : AV → Out) : frcU v k = k (.pl v) := by
  cases v with
  | bool b => cases b <;> rfl
  | int d n => cases n with
    | ofNat m => cases m <;> rfl
    | negSucc m => cases m <;> rfl
  | float d n => cases n <;> rfl
  | string s => exact frcR_eq _ _
  | _ => rfl

noncomputable def frcW (v : AV) (k : AV → Out) : Out :=
  AV.casesOn (motive_1 := fun _ => (AV → Out) → Out) v (fun k => k .any) (fun u => frcU u) (fun k => k .nils) (fun n xs k => frcR xs fun xs => k (.sl n xs)) (fun xs k => frcR xs fun xs => k (.rp xs))
    (fun a b k => frcN a fun a => frcN b fun b => k (.ptr a b)) (fun a b k => frcN a fun a => frcN b fun b => k (.osl a b)) (fun a b c d k => frcN a fun a => frcN b fun b => frcN c fun c => frcN d fun d => k (.ep a b c d))
    (fun a b c k => frcN a fun a => frcN b fun b => frcN c fun c => k (.psl a b c)) (fun k => k .zsl) (fun a b c d k => frcN a fun a => frcN b fun b => frcN c fun c => frcN d fun d => k (.win a b c d)) (fun xs k => frcR xs fun xs => k (.agg xs)) (fun xs k => frcR xs fun xs => k (.tup xs)) (fun f xs ys k => k (.fn f xs ys)) k

theorem frcW_eq (v : AV) (k : AV → Out) : frcW v k = k v := by
  cases v with
  | pl u => exact frcU_eq u k
  | sl n xs => exact frcR_eq _ _
  | rp xs => exact frcR_eq _ _
  | agg xs => exact frcR_eq _ _
  | tup xs => exact frcR_eq _ _
  | ptr a b => show (frcN a fun a => frcN b fun b => k (.ptr a b)) = _; simp
  | osl a b => show (frcN a fun a => frcN b fun b => k (.osl a b)) = _; simp
  | ep a b c d => show (frcN a fun a => frcN b fun b => frcN c fun c => frcN d fun d => k (.ep a b c d)) = _; simp
  | psl a b c => show (frcN a fun a => frcN b fun b => frcN c fun c => k (.psl a b c)) = _; simp
  | win a b c d => show (frcN a fun a => frcN b fun b => frcN c fun c => frcN d fun d => k (.win a b c d)) = _; simp
  | _ => rfl

noncomputable def frcOR (o : AOp) (σ : St) (k : St → Out) : Out :=
  AOp.rec (motive := fun _ => St → (St → Out) → Out) (fun ao σ k => Bool.rec (motive := fun _ => Out) (frcT σ k) (k σ) (stillT ao)) (fun _ _ σ k => frcR σ k) (fun _ _ _ σ k => k σ) o σ k

theorem frcOR_eq (o : AOp) (σ : St) (k : St → Out) : frcOR o σ k = k σ := by
  cases o with
  | prim ao =>
    show Bool.rec (motive := fun _ => Out) (frcT σ k) (k σ) (stillT ao) = _
    cases stillT ao
    · exact frcT_eq _ _
    · rfl
  | call f args => exact frcR_eq _ _
  | fresh n d x => rfl

noncomputable def fev (env : Env) (x : Operand) : AV :=
  match x with
  | .tmp t => nth env t
  | .const v => cval v
  | .global _ => .any
  | .func f => .fn f [] []

theorem fev_eq (env : Env) : fev env = aev env := by
  funext x
  cases x <;> simp only [fev, aev]
  rw [nth_eq]; rfl

noncomputable def putF {α : Type} (env : Env) (d : Option Tmp) (r : AV) (k : Env → α) : α :=
  match d with
  | some t => updC r env t k
  | none => k env

theorem putF_eq {α : Type} (env : Env) (d : Option Tmp) (r : AV) (k : Env → α) : putF env d r k = k (putA env d r) := by
  cases d
  · rfl
  · exact updC_eq _ _ _ _

noncomputable def wantR (env : Env) (g : Option (Tmp × Bool)) : Option Bool :=
  match g with
  | none => some true
  | some (t, want) => match nth env t with
    | .pl (.bool b) => some (b == want)
    | .tup [] => some false
    | _ => none

theorem wantR_eq (env : Env) (g : Option (Tmp × Bool)) : wantR env g = wantA env g := by
  unfold wantR wantA tmpA
  cases g with
  | none => rfl
  | some p => obtain ⟨t, w⟩ := p; simp only [nth_eq]; rfl

noncomputable def evOpR (run : Run) (env : Env) (σ : St) (o : AOp) : Option (AV × St) :=
  match o with
  | .prim ao => aopF (fev env) σ ao
  | .call f args => match fev env f with
    | .fn g fs cs => run g (fs ++ args.map (fev env) ++ cs) σ
    | _ => none
  | .fresh n d x => if d < env.length ∧ (fev env x).okc ∧ (fev env x).cells.length = n then some (.rp (fev env x).cells, σ) else none

theorem evOpR_eq (run : Run) (env : Env) (σ : St) (o : AOp) : evOpR run env σ o = evOp run env σ o := by
  unfold evOpR evOp
  simp only [fev_eq, aopF_eq]; rfl

noncomputable def evOpsR (run : Run) (l : List AOper) : Env → St → Option (Env × St) :=
  List.rec (motive := fun _ => Env → St → Option (Env × St)) (fun env σ => some (env, σ))
    (fun o _ ih env σ => match wantR env o.guard with
      | some true => match evOpR run env σ o.op with
        | some (r, σ') => frcW r fun r => putF env o.dst r fun env' => frcOR o.op σ' fun σ' => ih env' σ'
        | none => none
      | some false => putF env o.dst (.tup []) fun env' => ih env' σ
      | none => none) l

theorem evOpsR_eq (run : Run) : ∀ (l : List AOper) (env : Env) (σ : St), evOpsR run l env σ = evOps run l env σ
  | [], _, _ => rfl
  | o :: os, env, σ => by
    have : evOpsR run (o :: os) env σ = (match wantR env o.guard with
      | some true => match evOpR run env σ o.op with
        | some (r, σ') => frcW r fun r => putF env o.dst r fun env' => frcOR o.op σ' fun σ' => evOpsR run os env' σ'
        | none => none
      | some false => putF env o.dst (.tup []) fun env' => evOpsR run os env' σ
      | none => none) := rfl
    rw [this]
    simp only [evOps, wantR_eq, evOpR_eq, frcW_eq, putF_eq, frcOR_eq, frcV_eq, frcO_eq, frcL_eq, evOpsR_eq run os]; rfl

noncomputable def stayBR (env : Env) (ao : AO) (r : AV) (s : St) : Bool :=
  match aopF (fev env) s ao with
  | some (r', _) => r.same r'
  | none => false

theorem stayBR_eq (env : Env) (ao : AO) (r : AV) : stayBR env ao r = stayB env ao r := by
  funext s; unfold stayBR stayB; rw [fev_eq, aopF_eq]; rfl

noncomputable def stayCR (run : Run) (env : Env) (o : AOp) (r : AV) (s : St) : Bool :=
  match evOpR run env s o with
  | some (r', s') => r.same r' && sameSt s s'
  | none => false

theorem stayCR_eq (run : Run) (env : Env) (o : AOp) (r : AV) : stayCR run env o r = stayC run env o r := by
  funext s; unfold stayCR stayC; rw [evOpR_eq]; rfl

noncomputable def evDsR (run : Run) (l : List DOper) : Env → List St → St → (List St → Bool) → Option (Env × St) :=
  List.rec (motive := fun _ => Env → List St → St → (List St → Bool) → Option (Env × St)) (fun env S σ ob => if ob S then some (env, σ) else none)
    (fun d _ ih env S σ ob => match wantR env d.o.guard with
    | some true => if d.eff then (match evOpR run env σ d.o.op with
        | some (r, σ') => frcW r fun r => putF env d.o.dst r fun env' => frcOR d.o.op σ' fun σ' => ih env' (S ++ [σ']) σ' ob
        | none => none)
      else (match d.o.op with
        | .prim ao => match aopF (fev env) σ ao with
          | some (r, _) => frcW r fun r => putF env d.o.dst r fun env' => if ao.free then ih env' S σ ob
            else if ao.still then ih env' S σ (fun T => ob T && ((T.take (d.hi + 1)).drop d.lo).all (stayBR env ao r))
            else none
          | none => none
        | .call f args => match evOpR run env σ (.call f args) with
          | some (r, σ') => frcW r fun r => putF env d.o.dst r fun env' => if sameSt σ σ' then
              ih env' S σ (fun T => ob T && ((T.take (d.hi + 1)).drop d.lo).all (stayCR run env (.call f args) r)) else none
          | none => none
        | _ => none)
    | some false => putF env d.o.dst (.tup []) fun env' => ih env' (if d.eff then S ++ [σ] else S) σ ob
    | none => none) l

theorem evDsR_eq (run : Run) : ∀ (l : List DOper) (env : Env) (S : List St) (σ : St) (ob : List St → Bool), evDsR run l env S σ ob = evDs run l env S σ ob
  | [], _, _, _, _ => rfl
  | d :: ds, env, S, σ, ob => by
    have : evDsR run (d :: ds) env S σ ob = (match wantR env d.o.guard with
    | some true => if d.eff then (match evOpR run env σ d.o.op with
        | some (r, σ') => frcW r fun r => putF env d.o.dst r fun env' => frcOR d.o.op σ' fun σ' => evDsR run ds env' (S ++ [σ']) σ' ob
        | none => none)
      else (match d.o.op with
        | .prim ao => match aopF (fev env) σ ao with
          | some (r, _) => frcW r fun r => putF env d.o.dst r fun env' => if ao.free then evDsR run ds env' S σ ob
            else if ao.still then evDsR run ds env' S σ (fun T => ob T && ((T.take (d.hi + 1)).drop d.lo).all (stayBR env ao r))
            else none
          | none => none
        | .call f args => match evOpR run env σ (.call f args) with
          | some (r, σ') => frcW r fun r => putF env d.o.dst r fun env' => if sameSt σ σ' then
              evDsR run ds env' S σ (fun T => ob T && ((T.take (d.hi + 1)).drop d.lo).all (stayCR run env (.call f args) r)) else none
          | none => none
        | _ => none)
    | some false => putF env d.o.dst (.tup []) fun env' => evDsR run ds env' (if d.eff then S ++ [σ] else S) σ ob
    | none => none) := rfl
    rw [this]
    simp only [evDs, wantR_eq, evOpR_eq, fev_eq, aopF_eq, stayBR_eq, stayCR_eq, frcW_eq, putF_eq, frcOR_eq, frcV_eq, frcO_eq, frcL_eq, evDsR_eq run ds]; rfl

/-- From place i on, in order. -/
def sortedFrom : Nat → List Nat → Bool
  | _, [] => true
  | i, t :: ts => Nat.ble i t && sortedFrom (t + 1) ts

theorem sortedFrom_le : ∀ {ts : List Nat} {i : Nat}, sortedFrom i ts = true → ∀ t ∈ ts, i ≤ t
  | [], _, _ => by simp
  | t :: ts, i, h => by
    simp only [sortedFrom, Bool.and_eq_true, Nat.ble_eq] at h
    intro u hu
    rcases List.mem_cons.1 hu with rfl | hu
    · exact h.1
    · have := sortedFrom_le h.2 u hu
      omega

theorem sortedFrom_mono : ∀ {ts : List Nat} {i j : Nat}, sortedFrom i ts = true → (∀ t ∈ ts, j ≤ t) → sortedFrom j ts = true
  | [], _, _, _, _ => rfl
  | t :: ts, i, j, h, hj => by
    simp only [sortedFrom, Bool.and_eq_true, Nat.ble_eq] at h ⊢
    exact ⟨hj t (by simp), h.2⟩

noncomputable def clrM (env : Env) : Nat → List Nat → Env :=
  List.rec (motive := fun _ => Nat → List Nat → Env) (fun _ _ => [])
    (fun a as ih i ts => List.rec (motive := fun _ => Env) (a :: as) (fun t us _ => Bool.rec (motive := fun _ => Env) (a :: ih (i + 1) ts) (.any :: ih (i + 1) us) (Nat.beq t i)) ts) env

theorem clearA_nil : ∀ ts : List Tmp, clearA [] ts = []
  | [] => rfl
  | t :: ts => by simp only [clearA, List.set_nil]; exact clearA_nil ts

theorem clearA_cons (a : AV) : ∀ (us : List Tmp) (as : Env), clearA (a :: as) (us.map (· + 1)) = a :: clearA as us
  | [], _ => rfl
  | u :: us, as => by simp only [List.map_cons, clearA, List.set_cons_succ]; exact clearA_cons a us _

theorem clrM_eq : ∀ (env : Env) (i : Nat) (ts : List Nat), sortedFrom i ts = true → clrM env i ts = clearA env (ts.map (· - i))
  | [], i, ts, _ => by rw [clearA_nil]; rfl
  | a :: as, i, [], _ => rfl
  | a :: as, i, t :: us, h => by
    have hle := sortedFrom_le h
    have h2 : sortedFrom (t + 1) us = true := by
      simp only [sortedFrom, Bool.and_eq_true] at h; exact h.2
    have hle2 := sortedFrom_le h2
    have e : clrM (a :: as) i (t :: us) = Bool.rec (motive := fun _ => Env) (a :: clrM as (i + 1) (t :: us)) (.any :: clrM as (i + 1) us) (Nat.beq t i) := rfl
    rw [e]
    have hshift : ∀ vs : List Nat, (∀ v ∈ vs, i + 1 ≤ v) → vs.map (· - i) = (vs.map (· - (i + 1))).map (· + 1) := by
      intro vs hv
      rw [List.map_map]
      apply List.map_congr_left
      intro v hvm
      have := hv v hvm
      simp only [Function.comp]
      omega
    cases hb : Nat.beq t i with
    | true =>
      have ht : t = i := Nat.eq_of_beq_eq_true hb
      subst ht
      have h3 : ∀ v ∈ us, t + 1 ≤ v := hle2
      show AV.any :: clrM as (t + 1) us = _
      rw [clrM_eq as (t + 1) us h2]
      simp only [List.map_cons, Nat.sub_self, clearA, List.set_cons_zero]
      rw [hshift us h3, clearA_cons]
    | false =>
      have ht : t ≠ i := Nat.ne_of_beq_eq_false hb
      have h0 := hle t (by simp)
      have h3 : ∀ v ∈ t :: us, i + 1 ≤ v := by
        intro v hv
        rcases List.mem_cons.1 hv with rfl | hv
        · omega
        · have := hle2 v hv; omega
      show a :: clrM as (i + 1) (t :: us) = _
      rw [clrM_eq as (i + 1) (t :: us) (sortedFrom_mono h h3), hshift (t :: us) h3, clearA_cons]

noncomputable def clearR (env : Env) (ts : List Tmp) : Env := if sortedFrom 0 ts then clrM env 0 ts else clearA env ts

theorem clearR_eq (env : Env) (ts : List Tmp) : clearR env ts = clearA env ts := by
  unfold clearR
  split
  · rename_i h
    rw [clrM_eq env 0 ts h]
    congr 1
    simp
  · rfl

noncomputable def iterR (step : Env → St → Option (AExit × Env × St)) (clr : List Tmp) (n : Nat) : Env → St → Option (AExit × Env × St) :=
  Nat.rec (motive := fun _ => Env → St → Option (AExit × Env × St)) (fun _ _ => none) (fun _ ih env σ => match step env σ with
    | some (.normal, env', σ') => frcR (clearR env' clr) fun env' => ih env' σ'
    | r => r) n

theorem iterR_eq (step : Env → St → Option (AExit × Env × St)) (clr : List Tmp) : ∀ (n : Nat) (env : Env) (σ : St), iterR step clr n env σ = iter step clr n env σ
  | 0, _, _ => rfl
  | n + 1, env, σ => by
    have : iterR step clr (n + 1) env σ = (match step env σ with
      | some (.normal, env', σ') => frcR (clearR env' clr) fun env' => iterR step clr n env' σ'
      | r => r) := rfl
    rw [this]
    simp only [iter, frcR_eq, clearR_eq, frcL_eq, iterR_eq step clr n]; rfl

noncomputable def evCR (run : Run) (n0 m : Nat) (x : ACode) : Env → St → Option (AExit × Env × St) :=
  ACode.rec (motive := fun _ => Env → St → Option (AExit × Env × St))
    (fun env σ => some (.normal, env, σ))
    (fun l env σ => match evOpsR run l env σ with
      | some (env', σ') => some (.normal, env', σ')
      | none => none)
    (fun l env σ => match evDsR run l env [σ] σ (fun _ => true) with
      | some (env', σ') => some (.normal, env', σ')
      | none => none)
    (fun _ _ iha ihb env σ => match iha env σ with
      | some (.normal, env', σ') => ihb env' σ'
      | r => r)
    (fun c _ _ iha ihb env σ => match boolA (fev env c) with
      | some true => iha env σ
      | some false => ihb env σ
      | none => none)
    (fun id _ iha env σ => match iha env σ with
      | some (.exit j, env', σ') => if j = id then some (.normal, env', σ') else some (.exit j, env', σ')
      | r => r)
    (fun clr _ iha env σ => frcR (clearR env clr) fun env => iterR iha clr m env σ)
    (fun id env σ => some (.exit id, env, σ))
    (fun env σ => some (.ret, env, σ))
    (fun g _ iha env σ => match evG n0 g env σ with
      | some (env', σ') => frcR env' fun env' => frcT σ' fun σ' => iha env' σ'
      | none => none)
    (fun _ g iha env σ => match iha env σ with
      | some (.normal, env', σ') => (match evG n0 g env' σ' with
        | some (env'', σ'') => frcR env'' fun env'' => frcT σ'' fun σ'' => some (.normal, env'', σ'')
        | none => none)
      | r => r) x

theorem evCR_eq (run : Run) (n0 m : Nat) (x : ACode) : evCR run n0 m x = evC run n0 m x := by
  induction x with
  | skip => rfl
  | ops l =>
    funext env σ
    show (match evOpsR run l env σ with | some (env', σ') => some (AExit.normal, env', σ') | none => none) = _
    rw [evOpsR_eq]; rfl
  | draw l =>
    funext env σ
    show (match evDsR run l env [σ] σ (fun _ => true) with | some (env', σ') => some (AExit.normal, env', σ') | none => none) = _
    rw [evDsR_eq]; rfl
  | seq a b iha ihb =>
    funext env σ
    show (match evCR run n0 m a env σ with | some (.normal, env', σ') => evCR run n0 m b env' σ' | r => r) = _
    rw [iha, ihb]; rfl
  | cond c a b iha ihb =>
    funext env σ
    show (match boolA (fev env c) with | some true => evCR run n0 m a env σ | some false => evCR run n0 m b env σ | none => none) = _
    rw [iha, ihb, fev_eq]; rfl
  | block id a iha =>
    funext env σ
    show (match evCR run n0 m a env σ with | some (.exit j, env', σ') => if j = id then some (AExit.normal, env', σ') else some (AExit.exit j, env', σ') | r => r) = _
    rw [iha]; rfl
  | loop clr a iha =>
    funext env σ
    show (frcR (clearR env clr) fun env => iterR (evCR run n0 m a) clr m env σ) = _
    rw [iha, frcR_eq, clearR_eq, iterR_eq]
    simp only [evC, frcL_eq]
  | exit id => rfl
  | ret => rfl
  | ghost g a iha =>
    funext env σ
    show (match evG n0 g env σ with | some (env', σ') => frcR env' fun env' => frcT σ' fun σ' => evCR run n0 m a env' σ' | none => none) = _
    rw [iha]
    simp only [evC, frcR_eq, frcL_eq]; rfl
  | after a g iha =>
    funext env σ
    show (match evCR run n0 m a env σ with
      | some (.normal, env', σ') => (match evG n0 g env' σ' with
        | some (env'', σ'') => frcR env'' fun env'' => frcT σ'' fun σ'' => some (AExit.normal, env'', σ'')
        | none => none)
      | r => r) = _
    rw [iha]
    simp only [evC, frcR_eq, frcL_eq]; rfl

noncomputable def findR {P : Program} (f : FuncId) (C : List (Fun P)) : Option (Fun P) :=
  List.rec (motive := fun _ => Option (Fun P)) none (fun F _ ih => Bool.rec (motive := fun _ => Option (Fun P)) ih (some F) (Nat.beq F.f f)) C

theorem findR_eq {P : Program} (f : FuncId) : ∀ C : List (Fun P), findR f C = findF f C
  | [] => rfl
  | F :: C => by
    have : findR f (F :: C) = Bool.rec (motive := fun _ => Option (Fun P)) (findR f C) (some F) (Nat.beq F.f f) := rfl
    rw [this, findR_eq f C]
    unfold findF
    cases hb : Nat.beq F.f f with
    | true => rw [if_pos (Nat.eq_of_beq_eq_true hb)]
    | false => rw [if_neg (Nat.ne_of_beq_eq_false hb)]; cases C <;> rfl

noncomputable def evFBR {P : Program} (C : List (Fun P)) (E : List (Ext P)) (m : Nat) (run : Run) : Run := fun f args σ =>
  match findR f C with
  | some F => match frcR (args ++ List.replicate (F.n - args.length) .any) fun env => evCR run σ.length m F.x env σ with
    | some (.exit _, _, _) => none
    | some (_, env', σ') => match resA env' σ' F.rvs with
      | some r => some (trimmed σ.length r σ')
      | none => none
    | none => none
  | none => match findE f E with
    | some X => X.go args σ
    | none => none

theorem evFBR_eq {P : Program} (C : List (Fun P)) (E : List (Ext P)) (m : Nat) (run : Run) : evFBR C E m run = evFB C E m run := by
  funext f args σ
  simp only [evFB, evFBR, findR_eq, frcR_eq, frcL_eq, evCR_eq]; rfl

noncomputable def evFR {P : Program} (C : List (Fun P)) (E : List (Ext P)) (m k : Nat) : Run :=
  Nat.rec (motive := fun _ => Run) (fun _ _ _ => none) (fun _ ih => evFBR C E m ih) k

theorem evFR_ok {P : Program} (C : List (Fun P)) (E : List (Ext P)) (m : Nat) : ∀ (k : Nat) (f : FuncId) (args : List AV) (σ : St) (r : AV) (σ' : St), evFR C E m k f args σ = some (r, σ') → Ans P f args σ r σ'
  | 0, _, _, _, _, _, h => by cases h
  | k + 1, f, args, σ, r, σ', h => by
    have e : evFR C E m (k + 1) = evFBR C E m (evFR C E m k) := rfl
    rw [e, evFBR_eq] at h
    exact evFB_ok C E m (evFR_ok C E m k) f args σ r σ' h

/-- A call whose answer is known. -/
structure Memo (P : Program) where
  f : FuncId
  args : List AV
  σ : St
  r : AV
  σ' : St
  ok : Ans P f args σ r σ'

noncomputable def findM {P : Program} (f : FuncId) (args : List AV) (σ : St) (Ms : List (Memo P)) : Option (AV × St) :=
  List.rec (motive := fun _ => Option (AV × St)) none (fun M _ ih => Bool.rec (motive := fun _ => Option (AV × St)) ih (some (M.r, M.σ')) (Nat.beq M.f f && sameL args M.args && sameSt σ M.σ)) Ms

theorem findM_ok {P : Program} {f : FuncId} {args : List AV} {σ : St} {r : AV} {σ' : St} : ∀ {Ms : List (Memo P)}, findM f args σ Ms = some (r, σ') → Ans P f args σ r σ'
  | [], h => by cases h
  | M :: Ms, h => by
    have e : findM f args σ (M :: Ms) = Bool.rec (motive := fun _ => Option (AV × St)) (findM f args σ Ms) (some (M.r, M.σ')) (Nat.beq M.f f && sameL args M.args && sameSt σ M.σ) := rfl
    rw [e] at h
    cases hb : (Nat.beq M.f f && sameL args M.args && sameSt σ M.σ) with
    | true =>
      rw [hb] at h
      simp only [Option.some.injEq, Prod.mk.injEq] at h
      simp only [Bool.and_eq_true] at hb
      have h1 := Nat.eq_of_beq_eq_true hb.1.1
      have h2 := sameL_eq _ _ hb.1.2
      have h3 := sameSt_eq hb.2
      subst h1; subst h2; subst h3
      rw [← h.1, ← h.2]
      exact M.ok
    | false =>
      rw [hb] at h
      exact findM_ok h

/-- The evaluator, with calls that are known already. -/
noncomputable def evFM {P : Program} (C : List (Fun P)) (E : List (Ext P)) (Ms : List (Memo P)) (m k : Nat) : Run :=
  Nat.rec (motive := fun _ => Run) (fun _ _ _ => none) (fun _ ih f args σ => match findM f args σ Ms with
    | some p => some p
    | none => evFBR C E m ih f args σ) k

theorem evFM_ok {P : Program} (C : List (Fun P)) (E : List (Ext P)) (Ms : List (Memo P)) (m : Nat) : ∀ (k : Nat) (f : FuncId) (args : List AV) (σ : St) (r : AV) (σ' : St), evFM C E Ms m k f args σ = some (r, σ') → Ans P f args σ r σ'
  | 0, _, _, _, _, _, h => by cases h
  | k + 1, f, args, σ, r, σ', h => by
    have e : evFM C E Ms m (k + 1) f args σ = (match findM f args σ Ms with
      | some p => some p
      | none => evFBR C E m (evFM C E Ms m k) f args σ) := rfl
    rw [e] at h
    split at h
    · rename_i p hp
      simp only [Option.some.injEq] at h
      subst h
      exact findM_ok hp
    · rw [evFBR_eq] at h
      exact evFB_ok C E m (evFM_ok C E Ms m k) f args σ r σ' h

end Go.Ab
