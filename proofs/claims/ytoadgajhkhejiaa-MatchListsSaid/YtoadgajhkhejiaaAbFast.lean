/- The evaluator once more, laid so that the kernel reckons it cheaply: it answers what the first one answers. No condition. -/
import Derived.Test.YtoadgajhkhejiaaAbEval
set_option linter.unusedSimpArgs false
set_option linter.unusedVariables false
namespace Go.Ab
open Go
def aop_mov (ρ : Operand → AV) (σ : St) (x : Operand) : Option (AV × St) := some (ρ x, σ)
def aop_pick (ρ : Operand → AV) (σ : St) (c : Operand) (a : Operand) (b : Operand) : Option (AV × St) := match boolA (ρ c) with
    | some t => some (if t then ρ a else ρ b, σ)
    | none => none
def aop_boxr (ρ : Operand → AV) (σ : St) (x : Operand) : Option (AV × St) := if (ρ x).okc then some (.rp (ρ x).cells, σ) else none
def aop_boxm (ρ : Operand → AV) (σ : St) (x : Operand) : Option (AV × St) := if (ρ x).okc then some (.ptr σ.length 0, σ ++ [.box (ρ x).cells]) else none
def aop_allocm (ρ : Operand → AV) (σ : St) (z : List AV) : Option (AV × St) := some (.ptr σ.length 0, σ ++ [.box z])
def aop_build (ρ : Operand → AV) (σ : St) (z : List AV) (ps : List Part) : Option (AV × St) := (fillA ρ z ps).map fun cs => (.agg cs, σ)
def aop_bsl (ρ : Operand → AV) (σ : St) (own : Bool) (sz : Nat) (ag : Bool) (n : Nat) (z : List AV) (ps : List Part) : Option (AV × St) := (fillA ρ (repeatA z n) ps).map fun cs =>
      if own then (.osl σ.length n, σ ++ [.row sz (chunks sz ag n cs)]) else (.sl sz (chunks sz ag n cs), σ)
def aop_load (ρ : Operand → AV) (σ : St) (n : Nat) (ag : Bool) (x : Operand) : Option (AV × St) := (loadA σ n ag (ρ x)).map (·, σ)
def aop_store (ρ : Operand → AV) (σ : St) (n : Nat) (a : Operand) (x : Operand) : Option (AV × St) := if (ρ x).okc ∧ (ρ x).cells.length = n then
      match ρ a with
      | .ptr l off => match σ[l]? with
        | some (.box cs) => if off + n ≤ cs.length then some (.any, σ.set l (.box (lsplice cs off (ρ x).cells))) else none
        | _ => none
      | .ep l m i off => match σ[l]? with
        | some (.row sz xs) => if m = xs.length then (match xs[i]? with
          | some e => (setElem e off (ρ x).cells).map fun e' => (.any, σ.set l (.row sz (xs.set i e')))
          | none => none) else none
        | _ => none
      | _ => none
    else none
def aop_nilc (ρ : Operand → AV) (σ : St) (x : Operand) : Option (AV × St) := match ρ x with
    | .rp cs => some (.rp cs, σ)
    | .ptr l off => some (.ptr l off, σ)
    | .ep l m i off => some (.ep l m i off, σ)
    | _ => none
def aop_bin (ρ : Operand → AV) (σ : St) (bl : Bool) (op : BinOp) (x : Operand) (y : Operand) : Option (AV × St) := match ρ x, ρ y with
    | .pl u, .pl v => if bl = isB u then (binF op u v).map fun r => (.pl r, σ) else none
    | _, _ => none
def aop_eqa (ρ : Operand → AV) (σ : St) (neg : Bool) (ks : List Leaf) (x : Operand) (y : Operand) : Option (AV × St) := match ρ x, ρ y with
    | .agg xs, .agg ys => (eqCells ks xs ys).map fun b => (.pl (.bool (neg ^^ b)), σ)
    | _, _ => none
def aop_un (ρ : Operand → AV) (σ : St) (op : UnOp) (x : Operand) : Option (AV × St) := match ρ x with
    | .pl u => (unF op u).map fun r => (.pl r, σ)
    | _ => none
def aop_convi (ρ : Operand → AV) (σ : St) (k : IntKind) (x : Operand) : Option (AV × St) := match intA (ρ x) with
    | some n => some (.pl (.int k (k.wrap n)), σ)
    | none => none
def aop_field (ρ : Operand → AV) (σ : St) (off : Nat) (n : Nat) (ag : Bool) (x : Operand) : Option (AV × St) := match ρ x with
    | .agg cs => if off + n ≤ cs.length then (ldc n ag (cs.drop off)).map (·, σ) else none
    | _ => none
def aop_idxs (ρ : Operand → AV) (σ : St) (x : Operand) (i : Operand) : Option (AV × St) := match ρ x, intA (ρ i) with
    | .pl (.string s), some n => if 0 ≤ n ∧ n < s.size then some (.pl (.int .u8 (s.data.toList.getD n.toNat 0).toNat), σ) else none
    | _, _ => none
def aop_idxa (ρ : Operand → AV) (σ : St) (sz : Nat) (len : Nat) (ag : Bool) (x : Operand) (i : Operand) : Option (AV × St) := match ρ x, intA (ρ i) with
    | .agg cs, some n => if 0 ≤ n ∧ n < len ∧ (n.toNat + 1) * sz ≤ cs.length then (ldc sz ag (cs.drop (n.toNat * sz))).map (·, σ) else none
    | _, _ => none
def aop_fadr (ρ : Operand → AV) (σ : St) (off : Nat) (x : Operand) : Option (AV × St) := match ρ x with
    | .rp cs => some (.rp (cs.drop off), σ)
    | .ptr l o => some (.ptr l (o + off), σ)
    | .ep l m i o => some (.ep l m i (o + off), σ)
    | _ => none
def aop_iadrs (ρ : Operand → AV) (σ : St) (sz : Nat) (x : Operand) (i : Operand) : Option (AV × St) := match ρ x, intA (ρ i) with
    | .sl sz' xs, some n => if sz = sz' ∧ 0 ≤ n then (match xs[n.toNat]? with
      | some e => some (.rp e.cells, σ)
      | none => none) else none
    | .osl l m, some n => match σ[l]? with
      | some (.row sz' xs) => if sz = sz' ∧ m = xs.length ∧ 0 ≤ n ∧ n < m then some (.ep l m n.toNat 0, σ) else none
      | _ => none
    | _, _ => none
def aop_iadra (ρ : Operand → AV) (σ : St) (sz : Nat) (len : Nat) (x : Operand) (i : Operand) : Option (AV × St) := match intA (ρ i) with
    | some n => if 0 ≤ n ∧ n < len then (match ρ x with
      | .rp cs => some (.rp (cs.drop (n.toNat * sz)), σ)
      | .ptr l o => some (.ptr l (o + n.toNat * sz), σ)
      | .ep l m j o => some (.ep l m j (o + n.toNat * sz), σ)
      | _ => none) else none
    | none => none
def aop_con (ρ : Operand → AV) (σ : St) (v : Value) : Option (AV × St) := some (cval v, σ)
def aop_lens (ρ : Operand → AV) (σ : St) (x : Operand) : Option (AV × St) := match ρ x with
    | .pl (.string s) => some (.pl (.int .i64 s.size), σ)
    | _ => none
def aop_lenv (ρ : Operand → AV) (σ : St) (x : Operand) : Option (AV × St) := match ρ x with
    | .nils => some (.pl (.int .i64 0), σ)
    | .zsl => some (.pl (.int .i64 0), σ)
    | .psl _ _ n => some (.pl (.int .i64 n), σ)
    | .sl _ xs => some (.pl (.int .i64 xs.length), σ)
    | .osl l n => match σ[l]? with
      | some (.row _ xs) => if n = xs.length then some (.pl (.int .i64 n), σ) else none
      | _ => none
    | _ => none
def aop_extr (ρ : Operand → AV) (σ : St) (i : Nat) (x : Operand) : Option (AV × St) := match ρ x with
    | .tup cs => cs[i]?.map (·, σ)
    | _ => none
def aop_mkfn (ρ : Operand → AV) (σ : St) (f : FuncId) (fs : List Operand) (cs : List Operand) : Option (AV × St) := some (.fn f (fs.map ρ) (cs.map ρ), σ)
def aop_app (ρ : Operand → AV) (σ : St) (sz : Nat) (x : Operand) (y : Operand) : Option (AV × St) := match srcA σ sz (ρ y) with
    | some ys => match ρ x with
      | .nils => if ys.isEmpty then some (.nils, σ) else if ys.length ≤ 2 ^ 32 then some (.osl σ.length ys.length, σ ++ [.row sz ys]) else none
      | .zsl => if ys.isEmpty then some (.zsl, σ) else if ys.length ≤ 2 ^ 32 then some (.osl σ.length ys.length, σ ++ [.row sz ys]) else none
      | .osl l n => match σ[l]? with
        | some (.row sz' xs) => if sz = sz' ∧ n = xs.length ∧ n + ys.length ≤ 2 ^ 32 then some (.osl l (n + ys.length), σ.set l (.row sz (xs ++ ys))) else none
        | _ => none
      | _ => none
    | none => none
def aop_slcs (ρ : Operand → AV) (σ : St) (x : Operand) (lo : Option Operand) (hi : Option Operand) : Option (AV × St) := match ρ x with
    | .pl (.string s) => match (lo.map fun o => intA (ρ o)).getD (some 0), (hi.map fun o => intA (ρ o)).getD (some s.size) with
      | some l, some h => if 0 ≤ l ∧ l ≤ h ∧ h ≤ s.size then some (.pl (.string (s.extract l.toNat h.toNat)), σ) else none
      | _, _ => none
    | _ => none
def aop_slcv (ρ : Operand → AV) (σ : St) (sz : Nat) (x : Operand) (lo : Option Operand) (hi : Option Operand) : Option (AV × St) := match ρ x with
    | .sl sz' xs => match (lo.map fun o => intA (ρ o)).getD (some 0), (hi.map fun o => intA (ρ o)).getD (some xs.length) with
      | some l, some h => if sz = sz' ∧ 0 ≤ l ∧ l ≤ h ∧ h ≤ xs.length then some (.sl sz ((xs.take h.toNat).drop l.toNat), σ) else none
      | _, _ => none
    | _ => none
def aop_bad (ρ : Operand → AV) (σ : St)  : Option (AV × St) := none
def aop_s2b (ρ : Operand → AV) (σ : St) (x : Operand) : Option (AV × St) := match ρ x with
    | .pl (.string s) => some (.sl 1 (bytesA s), σ)
    | _ => none
def aop_b2s (ρ : Operand → AV) (σ : St) (x : Operand) : Option (AV × St) := if (ρ x).isStr then none else match srcA σ 1 (ρ x) with
    | some ys => (byteL ys).map fun ns => (.pl (.string (textOf ns)), σ)
    | none => none
def aop_s2s (ρ : Operand → AV) (σ : St) (x : Operand) : Option (AV × St) := match ρ x with
    | .pl (.string s) => some (.pl (.string s), σ)
    | _ => none
def aop_strm (ρ : Operand → AV) (σ : St) (x : Operand) : Option (AV × St) := match ρ x with
    | .osl l n => match σ[l]? with
      | some (.row sz xs) => if n = xs.length ∧ 0 < xs.length then some (.sl sz xs, σ.set l .dead) else none
      | _ => none
    | _ => none
def aop_mks (ρ : Operand → AV) (σ : St) (sz : Nat) (ag : Bool) (z : List AV) (x : Operand) (y : Operand) : Option (AV × St) := match intA (ρ x), intA (ρ y) with
    | some l, some c => if 0 ≤ l ∧ l ≤ c ∧ c ≤ 4294967296 then some (.osl σ.length l.toNat, σ ++ [.row sz ((chunks sz ag c.toNat (repeatA z c.toNat)).take l.toNat)]) else none
    | _, _ => none
def aop_capn (ρ : Operand → AV) (σ : St) (x : Operand) : Option (AV × St) := match ρ x with
    | .nils => some (.pl (.int .i64 0), σ)
    | _ => none
def aop_mm (ρ : Operand → AV) (σ : St) (big : Bool) (x : Operand) (y : Operand) : Option (AV × St) := match ρ x, ρ y with
    | .pl (.int k a), .pl (.int k' b) => if k = k' then some (.pl (.int k (if big then (if b > a then b else a) else (if b < a then b else a))), σ) else none
    | _, _ => none
def aop_copy (ρ : Operand → AV) (σ : St) (x : Operand) (y : Operand) : Option (AV × St) := match srcA σ 1 (ρ y) with
    | some ys => match ρ x with
      | .osl l n => match σ[l]? with
        | some (.row sz xs) => if sz = 1 ∧ n = xs.length then some (.pl (.int .i64 (Nat.min ys.length n : Nat)), σ.set l (.row 1 (ys.take (Nat.min ys.length n) ++ xs.drop (Nat.min ys.length n)))) else none
        | _ => none
      | .psl l off n => match σ[l]? with
        | some (.box cs) => if off + n ≤ cs.length ∧ ys.all AV.one then some (.pl (.int .i64 (Nat.min ys.length n : Nat)), σ.set l (.box (lsplice cs off (ys.take (Nat.min ys.length n))))) else none
        | _ => none
      | _ => none
    | none => none
def aop_slca (ρ : Operand → AV) (σ : St) (len : Nat) (x : Operand) : Option (AV × St) := match ρ x with
    | .rp cs => if len ≤ cs.length ∧ (cs.take len).all AV.one then some (.sl 1 (cs.take len), σ) else none
    | .ptr l off => some (.psl l off len, σ)
    | _ => none
def aop_arrp (ρ : Operand → AV) (σ : St) (len : Nat) (x : Operand) : Option (AV × St) := match ρ x with
    | .sl sz xs => if sz = 1 ∧ 0 < len ∧ len ≤ xs.length ∧ xs.all AV.one then some (.rp (xs.take len), σ) else none
    | _ => none
def aop_slc0 (ρ : Operand → AV) (σ : St) (x : Operand) : Option (AV × St) := match ρ x with
    | .nils => some (.nils, σ)
    | .zsl => some (.zsl, σ)
    | .sl _ _ => some (.zsl, σ)
    | .osl _ _ => some (.zsl, σ)
    | _ => none
def aop_appz (ρ : Operand → AV) (σ : St) (sz : Nat) (ag : Bool) (z : List AV) (x : Operand) (y : Operand) : Option (AV × St) := match ρ x, intA (ρ y) with
    | .nils, some n => if n = 0 then some (.nils, σ) else if 0 < n ∧ n ≤ 4294967296 then some (.osl σ.length n.toNat, σ ++ [.row sz (chunks sz ag n.toNat (repeatA z n.toNat))]) else none
    | _, _ => none
def aop_slco (ρ : Operand → AV) (σ : St) (sz : Nat) (x : Operand) (lo : Option Operand) (hi : Option Operand) : Option (AV × St) := match ρ x with
    | .nils => match (lo.map fun o => intA (ρ o)).getD (some 0), (hi.map fun o => intA (ρ o)).getD (some 0) with
      | some l, some h => if l = 0 ∧ h = 0 then some (.nils, σ) else none
      | _, _ => none
    | .osl k n => match σ[k]? with
      | some (.row sz' xs) => match (lo.map fun o => intA (ρ o)).getD (some 0), (hi.map fun o => intA (ρ o)).getD (some xs.length) with
        | some l, some h => if sz = sz' ∧ n = xs.length ∧ 0 ≤ l ∧ l ≤ h ∧ h ≤ xs.length then some (.osl σ.length (h.toNat - l.toNat), σ.set k .dead ++ [.row sz ((xs.take h.toNat).drop l.toNat)]) else none
        | _, _ => none
      | _ => none
    | _ => none
def aop_giadr (ρ : Operand → AV) (σ : St) (g : Nat) (sz : Nat) (len : Nat) (i : Operand) : Option (AV × St) := match gloA σ g, intA (ρ i) with
    | some vs, some n => if 0 ≤ n ∧ n < len then some (.rp ((vs.drop (n.toNat * sz)).map .pl), σ) else none
    | _, _ => none
def aop_slcw (ρ : Operand → AV) (σ : St) (sz : Nat) (x : Operand) (lo : Operand) : Option (AV × St) := match ρ x, intA (ρ lo) with
    | .osl l n, some i => match σ[l]? with
      | some (.row sz' xs) => if sz = sz' ∧ n = xs.length ∧ 0 ≤ i ∧ i < xs.length then some (.win sz l n i.toNat, σ) else none
      | _ => none
    | _, _ => none
def aop_clr (ρ : Operand → AV) (σ : St) (sz : Nat) (ag : Bool) (z : List AV) (x : Operand) : Option (AV × St) := match ρ x with
    | .win sz' l n lo => match σ[l]? with
      | some (.row sz'' xs) => if sz = sz' ∧ sz = sz'' ∧ n = xs.length ∧ lo < xs.length then some (.tup [], σ.set l (.row sz (xs.take lo ++ chunks sz ag (xs.length - lo) (repeatA z (xs.length - lo))))) else none
      | _ => none
    | _ => none
def aop_isnil (ρ : Operand → AV) (σ : St) (neg : Bool) (ptr : Bool) (x : Operand) : Option (AV × St) := (nilA2 σ ptr (ρ x)).map fun b => (.pl (.bool (neg ^^ b)), σ)
noncomputable def aopT : AO → (Operand → AV) → St → Option (AV × St) := fun ao => AO.rec (motive := fun _ => (Operand → AV) → St → Option (AV × St)) (fun x ρ σ => aop_mov ρ σ x) (fun c a b ρ σ => aop_pick ρ σ c a b) (fun x ρ σ => aop_boxr ρ σ x) (fun x ρ σ => aop_boxm ρ σ x) (fun z ρ σ => aop_allocm ρ σ z) (fun z ps ρ σ => aop_build ρ σ z ps) (fun own sz ag n z ps ρ σ => aop_bsl ρ σ own sz ag n z ps) (fun n ag x ρ σ => aop_load ρ σ n ag x) (fun n a x ρ σ => aop_store ρ σ n a x) (fun x ρ σ => aop_nilc ρ σ x) (fun bl op x y ρ σ => aop_bin ρ σ bl op x y) (fun neg ks x y ρ σ => aop_eqa ρ σ neg ks x y) (fun op x ρ σ => aop_un ρ σ op x) (fun k x ρ σ => aop_convi ρ σ k x) (fun off n ag x ρ σ => aop_field ρ σ off n ag x) (fun x i ρ σ => aop_idxs ρ σ x i) (fun sz len ag x i ρ σ => aop_idxa ρ σ sz len ag x i) (fun off x ρ σ => aop_fadr ρ σ off x) (fun sz x i ρ σ => aop_iadrs ρ σ sz x i) (fun sz len x i ρ σ => aop_iadra ρ σ sz len x i) (fun v ρ σ => aop_con ρ σ v) (fun x ρ σ => aop_lens ρ σ x) (fun x ρ σ => aop_lenv ρ σ x) (fun i x ρ σ => aop_extr ρ σ i x) (fun f fs cs ρ σ => aop_mkfn ρ σ f fs cs) (fun sz x y ρ σ => aop_app ρ σ sz x y) (fun x lo hi ρ σ => aop_slcs ρ σ x lo hi) (fun sz x lo hi ρ σ => aop_slcv ρ σ sz x lo hi) (fun ρ σ => aop_bad ρ σ) (fun x ρ σ => aop_s2b ρ σ x) (fun x ρ σ => aop_b2s ρ σ x) (fun x ρ σ => aop_s2s ρ σ x) (fun x ρ σ => aop_strm ρ σ x) (fun sz ag z x y ρ σ => aop_mks ρ σ sz ag z x y) (fun x ρ σ => aop_capn ρ σ x) (fun big x y ρ σ => aop_mm ρ σ big x y) (fun x y ρ σ => aop_copy ρ σ x y) (fun len x ρ σ => aop_slca ρ σ len x) (fun len x ρ σ => aop_arrp ρ σ len x) (fun x ρ σ => aop_slc0 ρ σ x) (fun sz ag z x y ρ σ => aop_appz ρ σ sz ag z x y) (fun sz x lo hi ρ σ => aop_slco ρ σ sz x lo hi) (fun neg ptr x ρ σ => aop_isnil ρ σ neg ptr x) (fun g sz len i ρ σ => aop_giadr ρ σ g sz len i) (fun sz x lo ρ σ => aop_slcw ρ σ sz x lo) (fun sz ag z x ρ σ => aop_clr ρ σ sz ag z x) ao
noncomputable def aopF (ρ : Operand → AV) (σ : St) (ao : AO) : Option (AV × St) := aopT ao ρ σ
theorem aopF_eq (ρ : Operand → AV) (σ : St) (ao : AO) : aopF ρ σ ao = aop ρ σ ao := by cases ao <;> rfl
noncomputable def stillT : AO → Bool := fun ao => AO.rec (motive := fun _ => Bool) (fun _ => true) (fun _ _ _ => true) (fun _ => true) (fun _ => false) (fun _ => false) (fun _ _ => true) (fun own _ _ _ _ _ => !own) (fun _ _ _ => true) (fun _ _ _ => false) (fun _ => true) (fun _ _ _ _ => true) (fun _ _ _ _ => true) (fun _ _ => true) (fun _ _ => true) (fun _ _ _ _ => true) (fun _ _ => true) (fun _ _ _ _ _ => true) (fun _ _ => true) (fun _ _ _ => true) (fun _ _ _ _ => true) (fun _ => true) (fun _ => true) (fun _ => true) (fun _ _ => true) (fun _ _ _ => true) (fun _ _ _ => false) (fun _ _ _ => true) (fun _ _ _ _ => true) true (fun _ => true) (fun _ => true) (fun _ => true) (fun _ => false) (fun _ _ _ _ _ => false) (fun _ => true) (fun _ _ _ => true) (fun _ _ => false) (fun _ _ => true) (fun _ _ => true) (fun _ => true) (fun _ _ _ _ _ => false) (fun _ _ _ _ => false) (fun _ _ _ => true) (fun _ _ _ _ => true) (fun _ _ _ => true) (fun _ _ _ _ => false) ao
noncomputable def frcR {α β : Type} (l : List β) : (List β → α) → α :=
  List.rec (motive := fun _ => (List β → α) → α) (fun k => k []) (fun x _ ih k => ih fun ys => k (x :: ys)) l
theorem frcR_eq {α β : Type} : ∀ (l : List β) (k : List β → α), frcR l k = k l
  | [], _ => rfl
  | x :: xs, k => by
    have : frcR (x :: xs) k = frcR xs fun ys => k (x :: ys) := rfl
    rw [this, frcR_eq xs]
/- A value brought to its form: each way by itself. -/
noncomputable def findR {P : Program} (f : FuncId) (C : List (Fun P)) : Option (Fun P) :=
  List.rec (motive := fun _ => Option (Fun P)) none (fun F _ ih => Bool.rec (motive := fun _ => Option (Fun P)) ih (some F) (Nat.beq F.f f)) C
theorem findR_eq {P : Program} (f : FuncId) : ∀ C : List (Fun P), findR f C = findF f C
  | [] => rfl
  | F :: C => by
    have : findR f (F :: C) = Bool.rec (motive := fun _ => Option (Fun P)) (findR f C) (some F) (Nat.beq F.f f) := rfl
    rw [this, findR_eq f C]
    unfold findF
    cases hb : Nat.beq F.f f with
    | true => rw [if_pos (Nat.eq_of_beq_eq_true hb)]
    | false => rw [if_neg (Nat.ne_of_beq_eq_false hb)]; cases C <;> rfl
structure Memo (P : Program) where
  f : FuncId
  args : List AV
  σ : St
  r : AV
  σ' : St
  ok : Ans P f args σ r σ'
noncomputable def findM {P : Program} (f : FuncId) (args : List AV) (σ : St) (Ms : List (Memo P)) : Option (AV × St) :=
  List.rec (motive := fun _ => Option (AV × St)) none (fun M _ ih => Bool.rec (motive := fun _ => Option (AV × St)) ih (some (M.r, M.σ')) (Nat.beq M.f f && sameL args M.args && sameSt σ M.σ)) Ms
theorem findM_ok {P : Program} {f : FuncId} {args : List AV} {σ : St} {r : AV} {σ' : St} : ∀ {Ms : List (Memo P)}, findM f args σ Ms = some (r, σ') → Ans P f args σ r σ'
  | [], h => by cases h
  | M :: Ms, h => by
    have e : findM f args σ (M :: Ms) = Bool.rec (motive := fun _ => Option (AV × St)) (findM f args σ Ms) (some (M.r, M.σ')) (Nat.beq M.f f && sameL args M.args && sameSt σ M.σ) := rfl
    rw [e] at h
    cases hb : (Nat.beq M.f f && sameL args M.args && sameSt σ M.σ) with
    | true =>
      rw [hb] at h
      simp only [Option.some.injEq, Prod.mk.injEq] at h
      simp only [Bool.and_eq_true] at hb
      have h1 := Nat.eq_of_beq_eq_true hb.1.1
      have h2 := sameL_eq _ _ hb.1.2
      have h3 := sameSt_eq hb.2
      subst h1; subst h2; subst h3
      rw [← h.1, ← h.2]
      exact M.ok
    | false =>
      rw [hb] at h
      exact findM_ok h
end Go.Ab
