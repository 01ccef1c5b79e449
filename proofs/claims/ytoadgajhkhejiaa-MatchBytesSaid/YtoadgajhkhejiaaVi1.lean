/- The evaluator once more, laid so that the kernel reckons it cheaply: it answers what the first one answers. No condition. -/
import Derived.Test.YtoadgajhkhejiaaMRun
import Derived.Attr
import Derived.Test.YtoadgajhkhejiaaMCod
set_option linter.unusedSimpArgs false
set_option linter.unusedVariables false
namespace Go.Ab
open Go
def aop_mov (ρ : Operand → AV) (σ : St) (x : Operand) : Option (AV × St) := some (ρ x, σ)
def aop_pick (ρ : Operand → AV) (σ : St) (c : Operand) (a : Operand) (b : Operand) : Option (AV × St) := match boolA (ρ c) with
    | some t => some (if t then ρ a else ρ b, σ)
    | none => none
def aop_boxr (ρ : Operand → AV) (σ : St) (x : Operand) : Option (AV × St) := if (ρ x).okc then some (.rp (ρ x).cells, σ) else none
def aop_boxm (ρ : Operand → AV) (σ : St) (x : Operand) : Option (AV × St) := if (ρ x).okc then some (.ptr σ.length 0, σ ++ [.box (ρ x).cells]) else none
def aop_allocm (ρ : Operand → AV) (σ : St) (z : List AV) : Option (AV × St) := some (.ptr σ.length 0, σ ++ [.box z])
def aop_build (ρ : Operand → AV) (σ : St) (z : List AV) (ps : List Part) : Option (AV × St) := (fillA ρ z ps).map fun cs => (.agg cs, σ)
def aop_bsl (ρ : Operand → AV) (σ : St) (own : Bool) (sz : Nat) (ag : Bool) (n : Nat) (z : List AV) (ps : List Part) : Option (AV × St) := (fillA ρ (repeatA z n) ps).map fun cs =>
      if own then (.osl σ.length n, σ ++ [.row sz (chunks sz ag n cs)]) else (.sl sz (chunks sz ag n cs), σ)
def aop_load (ρ : Operand → AV) (σ : St) (n : Nat) (ag : Bool) (x : Operand) : Option (AV × St) := (loadA σ n ag (ρ x)).map (·, σ)
def aop_store (ρ : Operand → AV) (σ : St) (n : Nat) (a : Operand) (x : Operand) : Option (AV × St) := if (ρ x).okc ∧ (ρ x).cells.length = n then
      match ρ a with
      | .ptr l off => match σ[l]? with
        | some (.box cs) => if off + n ≤ cs.length then some (.any, σ.set l (.box (lsplice cs off (ρ x).cells))) else none
        | _ => none
      | .ep l m i off => match σ[l]? with
        | some (.row sz xs) => if m = xs.length then (match xs[i]? with
          | some e => (setElem e off (ρ x).cells).map fun e' => (.any, σ.set l (.row sz (xs.set i e')))
          | none => none) else none
        | _ => none
      | _ => none
    else none
def aop_nilc (ρ : Operand → AV) (σ : St) (x : Operand) : Option (AV × St) := match ρ x with
    | .rp cs => some (.rp cs, σ)
    | .ptr l off => some (.ptr l off, σ)
    | .ep l m i off => some (.ep l m i off, σ)
    | _ => none
def aop_bin (ρ : Operand → AV) (σ : St) (bl : Bool) (op : BinOp) (x : Operand) (y : Operand) : Option (AV × St) := match ρ x, ρ y with
    | .pl u, .pl v => if bl = isB u then (binF op u v).map fun r => (.pl r, σ) else none
    | _, _ => none
def aop_eqa (ρ : Operand → AV) (σ : St) (neg : Bool) (ks : List Leaf) (x : Operand) (y : Operand) : Option (AV × St) := match ρ x, ρ y with
    | .agg xs, .agg ys => (eqCells ks xs ys).map fun b => (.pl (.bool (neg ^^ b)), σ)
    | _, _ => none
def aop_un (ρ : Operand → AV) (σ : St) (op : UnOp) (x : Operand) : Option (AV × St) := match ρ x with
    | .pl u => (unF op u).map fun r => (.pl r, σ)
    | _ => none
def aop_convi (ρ : Operand → AV) (σ : St) (k : IntKind) (x : Operand) : Option (AV × St) := match intA (ρ x) with
    | some n => some (.pl (.int k (k.wrap n)), σ)
    | none => none
def aop_field (ρ : Operand → AV) (σ : St) (off : Nat) (n : Nat) (ag : Bool) (x : Operand) : Option (AV × St) := match ρ x with
    | .agg cs => if off + n ≤ cs.length then (ldc n ag (cs.drop off)).map (·, σ) else none
    | _ => none
def aop_idxs (ρ : Operand → AV) (σ : St) (x : Operand) (i : Operand) : Option (AV × St) := match ρ x, intA (ρ i) with
    | .pl (.string s), some n => if 0 ≤ n ∧ n < s.size then some (.pl (.int .u8 (s.data.toList.getD n.toNat 0).toNat), σ) else none
    | _, _ => none
def aop_idxa (ρ : Operand → AV) (σ : St) (sz : Nat) (len : Nat) (ag : Bool) (x : Operand) (i : Operand) : Option (AV × St) := match ρ x, intA (ρ i) with
    | .agg cs, some n => if 0 ≤ n ∧ n < len ∧ (n.toNat + 1) * sz ≤ cs.length then (ldc sz ag (cs.drop (n.toNat * sz))).map (·, σ) else none
    | _, _ => none
def aop_fadr (ρ : Operand → AV) (σ : St) (off : Nat) (x : Operand) : Option (AV × St) := match ρ x with
    | .rp cs => some (.rp (cs.drop off), σ)
    | .ptr l o => some (.ptr l (o + off), σ)
    | .ep l m i o => some (.ep l m i (o + off), σ)
    | _ => none
def aop_iadrs (ρ : Operand → AV) (σ : St) (sz : Nat) (x : Operand) (i : Operand) : Option (AV × St) := match ρ x, intA (ρ i) with
    | .sl sz' xs, some n => if sz = sz' ∧ 0 ≤ n then (match xs[n.toNat]? with
      | some e => some (.rp e.cells, σ)
      | none => none) else none
    | .osl l m, some n => match σ[l]? with
      | some (.row sz' xs) => if sz = sz' ∧ m = xs.length ∧ 0 ≤ n ∧ n < m then some (.ep l m n.toNat 0, σ) else none
      | _ => none
    | _, _ => none
def aop_iadra (ρ : Operand → AV) (σ : St) (sz : Nat) (len : Nat) (x : Operand) (i : Operand) : Option (AV × St) := match intA (ρ i) with
    | some n => if 0 ≤ n ∧ n < len then (match ρ x with
      | .rp cs => some (.rp (cs.drop (n.toNat * sz)), σ)
      | .ptr l o => some (.ptr l (o + n.toNat * sz), σ)
      | .ep l m j o => some (.ep l m j (o + n.toNat * sz), σ)
      | _ => none) else none
    | none => none
def aop_con (ρ : Operand → AV) (σ : St) (v : Value) : Option (AV × St) := some (cval v, σ)
def aop_lens (ρ : Operand → AV) (σ : St) (x : Operand) : Option (AV × St) := match ρ x with
    | .pl (.string s) => some (.pl (.int .i64 s.size), σ)
    | _ => none
def aop_lenv (ρ : Operand → AV) (σ : St) (x : Operand) : Option (AV × St) := match ρ x with
    | .nils => some (.pl (.int .i64 0), σ)
    | .zsl => some (.pl (.int .i64 0), σ)
    | .psl _ _ n => some (.pl (.int .i64 n), σ)
    | .sl _ xs => some (.pl (.int .i64 xs.length), σ)
    | .osl l n => match σ[l]? with
      | some (.row _ xs) => if n = xs.length then some (.pl (.int .i64 n), σ) else none
      | _ => none
    | _ => none
def aop_extr (ρ : Operand → AV) (σ : St) (i : Nat) (x : Operand) : Option (AV × St) := match ρ x with
    | .tup cs => cs[i]?.map (·, σ)
    | _ => none
def aop_mkfn (ρ : Operand → AV) (σ : St) (f : FuncId) (fs : List Operand) (cs : List Operand) : Option (AV × St) := some (.fn f (fs.map ρ) (cs.map ρ), σ)
def aop_app (ρ : Operand → AV) (σ : St) (sz : Nat) (x : Operand) (y : Operand) : Option (AV × St) := match srcA σ sz (ρ y) with
    | some ys => match ρ x with
      | .nils => if ys.isEmpty then some (.nils, σ) else if ys.length ≤ 2 ^ 32 then some (.osl σ.length ys.length, σ ++ [.row sz ys]) else none
      | .zsl => if ys.isEmpty then some (.zsl, σ) else if ys.length ≤ 2 ^ 32 then some (.osl σ.length ys.length, σ ++ [.row sz ys]) else none
      | .osl l n => match σ[l]? with
        | some (.row sz' xs) => if sz = sz' ∧ n = xs.length ∧ n + ys.length ≤ 2 ^ 32 then some (.osl l (n + ys.length), σ.set l (.row sz (xs ++ ys))) else none
        | _ => none
      | _ => none
    | none => none
def aop_slcs (ρ : Operand → AV) (σ : St) (x : Operand) (lo : Option Operand) (hi : Option Operand) : Option (AV × St) := match ρ x with
    | .pl (.string s) => match (lo.map fun o => intA (ρ o)).getD (some 0), (hi.map fun o => intA (ρ o)).getD (some s.size) with
      | some l, some h => if 0 ≤ l ∧ l ≤ h ∧ h ≤ s.size then some (.pl (.string (s.extract l.toNat h.toNat)), σ) else none
      | _, _ => none
    | _ => none
def aop_slcv (ρ : Operand → AV) (σ : St) (sz : Nat) (x : Operand) (lo : Option Operand) (hi : Option Operand) : Option (AV × St) := match ρ x with
    | .sl sz' xs => match (lo.map fun o => intA (ρ o)).getD (some 0), (hi.map fun o => intA (ρ o)).getD (some xs.length) with
      | some l, some h => if sz = sz' ∧ 0 ≤ l ∧ l ≤ h ∧ h ≤ xs.length then some (.sl sz ((xs.take h.toNat).drop l.toNat), σ) else none
      | _, _ => none
    | _ => none
def aop_bad (ρ : Operand → AV) (σ : St)  : Option (AV × St) := none
def aop_s2b (ρ : Operand → AV) (σ : St) (x : Operand) : Option (AV × St) := match ρ x with
    | .pl (.string s) => some (.sl 1 (bytesA s), σ)
    | _ => none
def aop_b2s (ρ : Operand → AV) (σ : St) (x : Operand) : Option (AV × St) := if (ρ x).isStr then none else match srcA σ 1 (ρ x) with
    | some ys => (byteL ys).map fun ns => (.pl (.string (textOf ns)), σ)
    | none => none
def aop_s2s (ρ : Operand → AV) (σ : St) (x : Operand) : Option (AV × St) := match ρ x with
    | .pl (.string s) => some (.pl (.string s), σ)
    | _ => none
def aop_strm (ρ : Operand → AV) (σ : St) (x : Operand) : Option (AV × St) := match ρ x with
    | .osl l n => match σ[l]? with
      | some (.row sz xs) => if n = xs.length ∧ 0 < xs.length then some (.sl sz xs, σ.set l .dead) else none
      | _ => none
    | _ => none
def aop_mks (ρ : Operand → AV) (σ : St) (sz : Nat) (ag : Bool) (z : List AV) (x : Operand) (y : Operand) : Option (AV × St) := match intA (ρ x), intA (ρ y) with
    | some l, some c => if 0 ≤ l ∧ l ≤ c ∧ c ≤ 4294967296 then some (.osl σ.length l.toNat, σ ++ [.row sz ((chunks sz ag c.toNat (repeatA z c.toNat)).take l.toNat)]) else none
    | _, _ => none
def aop_capn (ρ : Operand → AV) (σ : St) (x : Operand) : Option (AV × St) := match ρ x with
    | .nils => some (.pl (.int .i64 0), σ)
    | _ => none
def aop_mm (ρ : Operand → AV) (σ : St) (big : Bool) (x : Operand) (y : Operand) : Option (AV × St) := match ρ x, ρ y with
    | .pl (.int k a), .pl (.int k' b) => if k = k' then some (.pl (.int k (if big then (if b > a then b else a) else (if b < a then b else a))), σ) else none
    | _, _ => none
def aop_copy (ρ : Operand → AV) (σ : St) (x : Operand) (y : Operand) : Option (AV × St) := match srcA σ 1 (ρ y) with
    | some ys => match ρ x with
      | .osl l n => match σ[l]? with
        | some (.row sz xs) => if sz = 1 ∧ n = xs.length then some (.pl (.int .i64 (Nat.min ys.length n : Nat)), σ.set l (.row 1 (ys.take (Nat.min ys.length n) ++ xs.drop (Nat.min ys.length n)))) else none
        | _ => none
      | .psl l off n => match σ[l]? with
        | some (.box cs) => if off + n ≤ cs.length ∧ ys.all AV.one then some (.pl (.int .i64 (Nat.min ys.length n : Nat)), σ.set l (.box (lsplice cs off (ys.take (Nat.min ys.length n))))) else none
        | _ => none
      | _ => none
    | none => none
def aop_slca (ρ : Operand → AV) (σ : St) (len : Nat) (x : Operand) : Option (AV × St) := match ρ x with
    | .rp cs => if len ≤ cs.length ∧ (cs.take len).all AV.one then some (.sl 1 (cs.take len), σ) else none
    | .ptr l off => some (.psl l off len, σ)
    | _ => none
def aop_arrp (ρ : Operand → AV) (σ : St) (len : Nat) (x : Operand) : Option (AV × St) := match ρ x with
    | .sl sz xs => if sz = 1 ∧ 0 < len ∧ len ≤ xs.length ∧ xs.all AV.one then some (.rp (xs.take len), σ) else none
    | _ => none
def aop_slc0 (ρ : Operand → AV) (σ : St) (x : Operand) : Option (AV × St) := match ρ x with
    | .nils => some (.nils, σ)
    | .zsl => some (.zsl, σ)
    | .sl _ _ => some (.zsl, σ)
    | .osl _ _ => some (.zsl, σ)
    | _ => none
def aop_appz (ρ : Operand → AV) (σ : St) (sz : Nat) (ag : Bool) (z : List AV) (x : Operand) (y : Operand) : Option (AV × St) := match ρ x, intA (ρ y) with
    | .nils, some n => if n = 0 then some (.nils, σ) else if 0 < n ∧ n ≤ 4294967296 then some (.osl σ.length n.toNat, σ ++ [.row sz (chunks sz ag n.toNat (repeatA z n.toNat))]) else none
    | _, _ => none
def aop_slco (ρ : Operand → AV) (σ : St) (sz : Nat) (x : Operand) (lo : Option Operand) (hi : Option Operand) : Option (AV × St) := match ρ x with
    | .nils => match (lo.map fun o => intA (ρ o)).getD (some 0), (hi.map fun o => intA (ρ o)).getD (some 0) with
      | some l, some h => if l = 0 ∧ h = 0 then some (.nils, σ) else none
      | _, _ => none
    | .osl k n => match σ[k]? with
      | some (.row sz' xs) => match (lo.map fun o => intA (ρ o)).getD (some 0), (hi.map fun o => intA (ρ o)).getD (some xs.length) with
        | some l, some h => if sz = sz' ∧ n = xs.length ∧ 0 ≤ l ∧ l ≤ h ∧ h ≤ xs.length then some (.osl σ.length (h.toNat - l.toNat), σ.set k .dead ++ [.row sz ((xs.take h.toNat).drop l.toNat)]) else none
        | _, _ => none
      | _ => none
    | _ => none
def aop_giadr (ρ : Operand → AV) (σ : St) (g : Nat) (sz : Nat) (len : Nat) (i : Operand) : Option (AV × St) := match gloA σ g, intA (ρ i) with
    | some vs, some n => if 0 ≤ n ∧ n < len then some (.rp ((vs.drop (n.toNat * sz)).map .pl), σ) else none
    | _, _ => none
def aop_slcw (ρ : Operand → AV) (σ : St) (sz : Nat) (x : Operand) (lo : Operand) : Option (AV × St) := match ρ x, intA (ρ lo) with
    | .osl l n, some i => match σ[l]? with
      | some (.row sz' xs) => if sz = sz' ∧ n = xs.length ∧ 0 ≤ i ∧ i < xs.length then some (.win sz l n i.toNat, σ) else none
      | _ => none
    | _, _ => none
def aop_clr (ρ : Operand → AV) (σ : St) (sz : Nat) (ag : Bool) (z : List AV) (x : Operand) : Option (AV × St) := match ρ x with
    | .win sz' l n lo => match σ[l]? with
      | some (.row sz'' xs) => if sz = sz' ∧ sz = sz'' ∧ n = xs.length ∧ lo < xs.length then some (.tup [], σ.set l (.row sz (xs.take lo ++ chunks sz ag (xs.length - lo) (repeatA z (xs.length - lo))))) else none
      | _ => none
    | _ => none
def aop_isnil (ρ : Operand → AV) (σ : St) (neg : Bool) (ptr : Bool) (x : Operand) : Option (AV × St) := (nilA2 σ ptr (ρ x)).map fun b => (.pl (.bool (neg ^^ b)), σ)
noncomputable def aopT : AO → (Operand → AV) → St → Option (AV × St) := fun ao => AO.rec (motive := fun _ => (Operand → AV) → St → Option (AV × St)) (fun x ρ σ => aop_mov ρ σ x) (fun c a b ρ σ => aop_pick ρ σ c a b) (fun x ρ σ => aop_boxr ρ σ x) (fun x ρ σ => aop_boxm ρ σ x) (fun z ρ σ => aop_allocm ρ σ z) (fun z ps ρ σ => aop_build ρ σ z ps) (fun own sz ag n z ps ρ σ => aop_bsl ρ σ own sz ag n z ps) (fun n ag x ρ σ => aop_load ρ σ n ag x) (fun n a x ρ σ => aop_store ρ σ n a x) (fun x ρ σ => aop_nilc ρ σ x) (fun bl op x y ρ σ => aop_bin ρ σ bl op x y) (fun neg ks x y ρ σ => aop_eqa ρ σ neg ks x y) (fun op x ρ σ => aop_un ρ σ op x) (fun k x ρ σ => aop_convi ρ σ k x) (fun off n ag x ρ σ => aop_field ρ σ off n ag x) (fun x i ρ σ => aop_idxs ρ σ x i) (fun sz len ag x i ρ σ => aop_idxa ρ σ sz len ag x i) (fun off x ρ σ => aop_fadr ρ σ off x) (fun sz x i ρ σ => aop_iadrs ρ σ sz x i) (fun sz len x i ρ σ => aop_iadra ρ σ sz len x i) (fun v ρ σ => aop_con ρ σ v) (fun x ρ σ => aop_lens ρ σ x) (fun x ρ σ => aop_lenv ρ σ x) (fun i x ρ σ => aop_extr ρ σ i x) (fun f fs cs ρ σ => aop_mkfn ρ σ f fs cs) (fun sz x y ρ σ => aop_app ρ σ sz x y) (fun x lo hi ρ σ => aop_slcs ρ σ x lo hi) (fun sz x lo hi ρ σ => aop_slcv ρ σ sz x lo hi) (fun ρ σ => aop_bad ρ σ) (fun x ρ σ => aop_s2b ρ σ x) (fun x ρ σ => aop_b2s ρ σ x) (fun x ρ σ => aop_s2s ρ σ x) (fun x ρ σ => aop_strm ρ σ x) (fun sz ag z x y ρ σ => aop_mks ρ σ sz ag z x y) (fun x ρ σ => aop_capn ρ σ x) (fun big x y ρ σ => aop_mm ρ σ big x y) (fun x y ρ σ => aop_copy ρ σ x y) (fun len x ρ σ => aop_slca ρ σ len x) (fun len x ρ σ => aop_arrp ρ σ len x) (fun x ρ σ => aop_slc0 ρ σ x) (fun sz ag z x y ρ σ => aop_appz ρ σ sz ag z x y) (fun sz x lo hi ρ σ => aop_slco ρ σ sz x lo hi) (fun neg ptr x ρ σ => aop_isnil ρ σ neg ptr x) (fun g sz len i ρ σ => aop_giadr ρ σ g sz len i) (fun sz x lo ρ σ => aop_slcw ρ σ sz x lo) (fun sz ag z x ρ σ => aop_clr ρ σ sz ag z x) ao
noncomputable def aopF (ρ : Operand → AV) (σ : St) (ao : AO) : Option (AV × St) := aopT ao ρ σ
theorem aopF_eq (ρ : Operand → AV) (σ : St) (ao : AO) : aopF ρ σ ao = aop ρ σ ao := by cases ao <;> rfl
noncomputable def stillT : AO → Bool := fun ao => AO.rec (motive := fun _ => Bool) (fun _ => true) (fun _ _ _ => true) (fun _ => true) (fun _ => false) (fun _ => false) (fun _ _ => true) (fun own _ _ _ _ _ => !own) (fun _ _ _ => true) (fun _ _ _ => false) (fun _ => true) (fun _ _ _ _ => true) (fun _ _ _ _ => true) (fun _ _ => true) (fun _ _ => true) (fun _ _ _ _ => true) (fun _ _ => true) (fun _ _ _ _ _ => true) (fun _ _ => true) (fun _ _ _ => true) (fun _ _ _ _ => true) (fun _ => true) (fun _ => true) (fun _ => true) (fun _ _ => true) (fun _ _ _ => true) (fun _ _ _ => false) (fun _ _ _ => true) (fun _ _ _ _ => true) true (fun _ => true) (fun _ => true) (fun _ => true) (fun _ => false) (fun _ _ _ _ _ => false) (fun _ => true) (fun _ _ _ => true) (fun _ _ => false) (fun _ _ => true) (fun _ _ => true) (fun _ => true) (fun _ _ _ _ _ => false) (fun _ _ _ _ => false) (fun _ _ _ => true) (fun _ _ _ _ => true) (fun _ _ _ => true) (fun _ _ _ _ => false) ao
noncomputable def frcR {α β : Type} (l : List β) : (List β → α) → α :=
  List.rec (motive := fun _ => (List β → α) → α) (fun k => k []) (fun x _ ih k => ih fun ys => k (x :: ys)) l
theorem frcR_eq {α β : Type} : ∀ (l : List β) (k : List β → α), frcR l k = k l
  | [], _ => rfl
  | x :: xs, k => by
    have : frcR (x :: xs) k = frcR xs fun ys => k (x :: ys) := rfl
    rw [this, frcR_eq xs]
/- A value brought to its form: each way by itself. -/
noncomputable def findR {P : Program} (f : FuncId) (C : List (Fun P)) : Option (Fun P) :=
  List.rec (motive := fun _ => Option (Fun P)) none (fun F _ ih => Bool.rec (motive := fun _ => Option (Fun P)) ih (some F) (Nat.beq F.f f)) C
theorem findR_eq {P : Program} (f : FuncId) : ∀ C : List (Fun P), findR f C = findF f C
  | [] => rfl
  | F :: C => by
    have : findR f (F :: C) = Bool.rec (motive := fun _ => Option (Fun P)) (findR f C) (some F) (Nat.beq F.f f) := rfl
    rw [this, findR_eq f C]
    unfold findF
    cases hb : Nat.beq F.f f with
    | true => rw [if_pos (Nat.eq_of_beq_eq_true hb)]
    | false => rw [if_neg (Nat.ne_of_beq_eq_false hb)]; cases C <;> rfl
structure Memo (P : Program) where
  f : FuncId
  args : List AV
  σ : St
  r : AV
  σ' : St
  ok : Ans P f args σ r σ'
noncomputable def findM {P : Program} (f : FuncId) (args : List AV) (σ : St) (Ms : List (Memo P)) : Option (AV × St) :=
  List.rec (motive := fun _ => Option (AV × St)) none (fun M _ ih => Bool.rec (motive := fun _ => Option (AV × St)) ih (some (M.r, M.σ')) (Nat.beq M.f f && sameL args M.args && sameSt σ M.σ)) Ms
theorem findM_ok {P : Program} {f : FuncId} {args : List AV} {σ : St} {r : AV} {σ' : St} : ∀ {Ms : List (Memo P)}, findM f args σ Ms = some (r, σ') → Ans P f args σ r σ'
  | [], h => by cases h
  | M :: Ms, h => by
    have e : findM f args σ (M :: Ms) = Bool.rec (motive := fun _ => Option (AV × St)) (findM f args σ Ms) (some (M.r, M.σ')) (Nat.beq M.f f && sameL args M.args && sameSt σ M.σ) := rfl
    rw [e] at h
    cases hb : (Nat.beq M.f f && sameL args M.args && sameSt σ M.σ) with
    | true =>
      rw [hb] at h
      simp only [Option.some.injEq, Prod.mk.injEq] at h
      simp only [Bool.and_eq_true] at hb
      have h1 := Nat.eq_of_beq_eq_true hb.1.1
      have h2 := sameL_eq _ _ hb.1.2
      have h3 := sameSt_eq hb.2
      subst h1; subst h2; subst h3
      rw [← h.1, ← h.2]
      exact M.ok
    | false =>
      rw [hb] at h
      exact findM_ok h
end Go.Ab
namespace Go.Ab
open Go
inductive ET where
  | lf (v : AV)
  | nd (l r : ET)
abbrev OutT := Option (ET × St)
/- A value brought to its form: each way by itself. -/
noncomputable def frcUT : Value → (AV → OutT) → OutT := fun v => Value.rec (motive_1 := fun _ => (AV → OutT) → OutT) (motive_2 := fun _ => Unit) (motive_3 := fun _ => Unit)
  (fun b => Bool.rec (motive := fun _ => (AV → OutT) → OutT) (fun k => k (.pl (.bool false))) (fun k => k (.pl (.bool true))) b)
  (fun d n => Int.rec (motive := fun _ => (AV → OutT) → OutT) (fun m k => Nat.rec (motive := fun _ => OutT) (k (.pl (.int d (.ofNat 0)))) (fun p _ => k (.pl (.int d (.ofNat (p + 1))))) m)
    (fun m k => Nat.rec (motive := fun _ => OutT) (k (.pl (.int d (.negSucc 0)))) (fun p _ => k (.pl (.int d (.negSucc (p + 1))))) m) n)
  (fun d n k => Nat.rec (motive := fun _ => OutT) (k (.pl (.float d 0))) (fun p _ => k (.pl (.float d (p + 1)))) n)
  (fun d a b k => k (.pl (.complex d a b)))
  (fun s k => frcR s.data.toList fun l => k (.pl (.string ⟨⟨l⟩⟩)))
  (fun a k => k (.pl (.pointer a)))
  (fun a n c k => k (.pl (.slice a n c)))
  (fun r k => k (.pl (.map r)))
  (fun r k => k (.pl (.chan r)))
  (fun f a b _ _ k => k (.pl (.func f a b)))
  (fun k => k (.pl .nilFunc))
  (fun t v _ k => k (.pl (.iface t v)))
  (fun k => k (.pl .nilIface))
  (fun cs _ k => k (.pl (.agg cs)))
  (fun cs _ k => k (.pl (.tuple cs)))
  (fun _ _ => ()) () (fun _ _ _ _ => ()) v
theorem frcUT_eq (v : Value) (k : AV → OutT) : frcUT v k = k (.pl v) := by
  cases v with
  | bool b => cases b <;> rfl
  | int d n => cases n with
    | ofNat m => cases m <;> rfl
    | negSucc m => cases m <;> rfl
  | float d n => cases n <;> rfl
  | string s => exact frcR_eq _ _
  | _ => rfl
noncomputable def frcWT (v : AV) (k : AV → OutT) : OutT :=
  AV.casesOn (motive_1 := fun _ => (AV → OutT) → OutT) v (fun k => k .any) (fun u => frcUT u) (fun k => k .nils) (fun n xs k => frcR xs fun xs => k (.sl n xs)) (fun xs k => frcR xs fun xs => k (.rp xs))
    (fun a b k => frcN a fun a => frcN b fun b => k (.ptr a b)) (fun a b k => frcN a fun a => frcN b fun b => k (.osl a b)) (fun a b c d k => frcN a fun a => frcN b fun b => frcN c fun c => frcN d fun d => k (.ep a b c d))
    (fun a b c k => frcN a fun a => frcN b fun b => frcN c fun c => k (.psl a b c)) (fun k => k .zsl) (fun a b c d k => frcN a fun a => frcN b fun b => frcN c fun c => frcN d fun d => k (.win a b c d)) (fun xs k => frcR xs fun xs => k (.agg xs)) (fun xs k => frcR xs fun xs => k (.tup xs)) (fun f xs ys k => k (.fn f xs ys)) k
theorem frcWT_eq (v : AV) (k : AV → OutT) : frcWT v k = k v := by
  cases v with
  | pl u => exact frcUT_eq u k
  | sl n xs => exact frcR_eq _ _
  | rp xs => exact frcR_eq _ _
  | agg xs => exact frcR_eq _ _
  | tup xs => exact frcR_eq _ _
  | ptr a b => show (frcN a fun a => frcN b fun b => k (.ptr a b)) = _; simp
  | osl a b => show (frcN a fun a => frcN b fun b => k (.osl a b)) = _; simp
  | ep a b c d => show (frcN a fun a => frcN b fun b => frcN c fun c => frcN d fun d => k (.ep a b c d)) = _; simp
  | psl a b c => show (frcN a fun a => frcN b fun b => frcN c fun c => k (.psl a b c)) = _; simp
  | win a b c d => show (frcN a fun a => frcN b fun b => frcN c fun c => frcN d fun d => k (.win a b c d)) = _; simp
  | _ => rfl
noncomputable def frcORT (o : AOp) (σ : St) (k : St → OutT) : OutT :=
  AOp.rec (motive := fun _ => St → (St → OutT) → OutT) (fun ao σ k => Bool.rec (motive := fun _ => OutT) (frcT σ k) (k σ) (stillT ao)) (fun _ _ σ k => frcR σ k) (fun _ _ _ σ k => k σ) (fun _ σ k => k σ) (fun _ _ _ _ σ k => k σ) o σ k
theorem frcORT_eq (o : AOp) (σ : St) (k : St → OutT) : frcORT o σ k = k σ := by
  cases o with
  | prim ao =>
    show Bool.rec (motive := fun _ => OutT) (frcT σ k) (k σ) (stillT ao) = _
    cases stillT ao
    · exact frcT_eq _ _
    · rfl
  | call f args => exact frcR_eq _ _
  | _ => rfl
noncomputable def ET.get (t : ET) : Nat → AV :=
  ET.rec (motive := fun _ => Nat → AV) (fun v _ => v) (fun _ _ gl gr i => Bool.rec (motive := fun _ => AV) (gl (i / 2)) (gr (i / 2)) (Nat.beq (i % 2) 1)) t
def ET.upd (v : AV) : ET → Nat → ET
  | .lf _, _ => .lf v
  | .nd l r, i => if i % 2 = 1 then .nd l (upd v r (i / 2)) else .nd (upd v l (i / 2)) r
noncomputable def ET.updK {α : Type} (v : AV) (t : ET) : Nat → (ET → α) → α :=
  ET.rec (motive := fun _ => Nat → (ET → α) → α) (fun _ _ k => k (.lf v))
    (fun l r ul ur i k => Bool.rec (motive := fun _ => α) (ul (i / 2) fun l' => k (.nd l' r)) (ur (i / 2) fun r' => k (.nd l r')) (Nat.beq (i % 2) 1)) t
theorem ET.updK_eq {α : Type} (v : AV) : ∀ (t : ET) (i : Nat) (k : ET → α), ET.updK v t i k = k (t.upd v i)
  | .lf _, _, _ => rfl
  | .nd l r, i, k => by
    have e : ET.updK v (.nd l r) i k = Bool.rec (motive := fun _ => α) (ET.updK v l (i / 2) fun l' => k (.nd l' r)) (ET.updK v r (i / 2) fun r' => k (.nd l r')) (Nat.beq (i % 2) 1) := rfl
    rw [e, ET.updK_eq v l, ET.updK_eq v r]
    cases hb : Nat.beq (i % 2) 1 with
    | true => simp only [ET.upd, if_pos (Nat.eq_of_beq_eq_true hb)]
    | false => simp only [ET.upd, if_neg (Nat.ne_of_beq_eq_false hb)]
def Perf : Nat → ET → Prop
  | 0, t => ∃ v, t = .lf v
  | d + 1, t => ∃ l r, t = .nd l r ∧ Perf d l ∧ Perf d r
theorem Perf.upd (v : AV) : ∀ {d : Nat} {t : ET}, Perf d t → ∀ i, Perf d (t.upd v i)
  | 0, _, ⟨_, rfl⟩, _ => ⟨v, rfl⟩
  | d + 1, _, ⟨l, r, rfl, hl, hr⟩, i => by
    simp only [ET.upd]
    split
    · exact ⟨_, _, rfl, hl, hr.upd v _⟩
    · exact ⟨_, _, rfl, hl.upd v _, hr⟩
theorem ET.get_nd (l r : ET) (i : Nat) : (ET.nd l r).get i = if i % 2 = 1 then r.get (i / 2) else l.get (i / 2) := by
  have e : (ET.nd l r).get i = Bool.rec (motive := fun _ => AV) (l.get (i / 2)) (r.get (i / 2)) (Nat.beq (i % 2) 1) := rfl
  rw [e]
  cases hb : Nat.beq (i % 2) 1 with
  | true => rw [if_pos (Nat.eq_of_beq_eq_true hb)]
  | false => rw [if_neg (Nat.ne_of_beq_eq_false hb)]
theorem ET.get_upd (v : AV) : ∀ {d : Nat} {t : ET}, Perf d t → ∀ i j, i < 2 ^ d → j < 2 ^ d → (t.upd v i).get j = if i = j then v else t.get j
  | 0, _, ⟨_, rfl⟩, i, j, hi, hj => by
    have : i = j := by simp at hi hj; omega
    rw [if_pos this]; rfl
  | d + 1, _, ⟨l, r, rfl, hl, hr⟩, i, j, hi, hj => by
    have hi2 : i / 2 < 2 ^ d := by rw [Nat.pow_succ] at hi; omega
    have hj2 : j / 2 < 2 ^ d := by rw [Nat.pow_succ] at hj; omega
    simp only [ET.upd]
    by_cases h1 : i % 2 = 1
    · rw [if_pos h1, ET.get_nd, ET.get_nd]
      by_cases h2 : j % 2 = 1
      · rw [if_pos h2, if_pos h2, ET.get_upd v hr _ _ hi2 hj2]
        by_cases h3 : i = j
        · rw [if_pos h3, if_pos (by omega)]
        · rw [if_neg h3, if_neg (by omega)]
      · rw [if_neg h2, if_neg h2, if_neg (by omega)]
    · rw [if_neg h1, ET.get_nd, ET.get_nd]
      by_cases h2 : j % 2 = 1
      · rw [if_pos h2, if_pos h2, if_neg (by omega)]
      · rw [if_neg h2, if_neg h2, ET.get_upd v hl _ _ hi2 hj2]
        by_cases h3 : i = j
        · rw [if_pos h3, if_pos (by omega)]
        · rw [if_neg h3, if_neg (by omega)]
noncomputable def toL (n : Nat) (t : ET) : Env := (List.range n).map t.get
theorem toL_length (n : Nat) (t : ET) : (toL n t).length = n := by simp [toL]
theorem toL_get (n : Nat) (t : ET) (i : Nat) : tmpA (toL n t) i = if i < n then t.get i else .any := by
  unfold tmpA toL
  by_cases h : i < n
  · simp [h, List.getD]
  · simp [h, List.getD, Nat.not_lt.1 h]
theorem toL_upd {d n : Nat} {t : ET} (hp : Perf d t) (hn : n ≤ 2 ^ d) (v : AV) (i : Nat) (hi : i < n) : toL n (t.upd v i) = (toL n t).set i v := by
  apply List.ext_getElem
  · simp [toL]
  · intro j h1 h2
    have hj : j < n := by simpa [toL] using h1
    simp only [toL, List.getElem_map, List.getElem_range, List.getElem_set]
    exact ET.get_upd v hp i j (by omega) (by omega)
noncomputable def fevT (n : Nat) (t : ET) (x : Operand) : AV :=
  match x with
  | .tmp i => Bool.rec (motive := fun _ => AV) .any (t.get i) (Nat.ble (i + 1) n)
  | .const v => cval v
  | .global _ => .any
  | .func f => .fn f [] []
theorem getT_eq (n : Nat) (t : ET) (i : Nat) : Bool.rec (motive := fun _ => AV) .any (t.get i) (Nat.ble (i + 1) n) = tmpA (toL n t) i := by
  rw [toL_get]
  cases hb : Nat.ble (i + 1) n with
  | true => rw [if_pos (show i < n from Nat.le_of_ble_eq_true hb)]
  | false =>
    rw [if_neg]
    intro h
    rw [Nat.ble_eq_true_of_le (show i + 1 ≤ n from h)] at hb
    cases hb
theorem fevT_eq (n : Nat) (t : ET) : fevT n t = aev (toL n t) := by
  funext x
  cases x <;> simp only [fevT, aev]
  exact getT_eq n t _
noncomputable def putT {α : Type} (n : Nat) (t : ET) (d : Option Tmp) (r : AV) (k : ET → α) : α :=
  match d with
  | some i => Bool.rec (motive := fun _ => α) (k t) (ET.updK r t i k) (Nat.ble (i + 1) n)
  | none => k t
def putD (n : Nat) (t : ET) (d : Option Tmp) (r : AV) : ET :=
  match d with
  | some i => if i + 1 ≤ n then t.upd r i else t
  | none => t
theorem putT_eq {α : Type} (n : Nat) (t : ET) (d : Option Tmp) (r : AV) (k : ET → α) : putT n t d r k = k (putD n t d r) := by
  cases d with
  | none => rfl
  | some i =>
    show Bool.rec (motive := fun _ => α) (k t) (ET.updK r t i k) (Nat.ble (i + 1) n) = k (if i + 1 ≤ n then t.upd r i else t)
    cases hb : Nat.ble (i + 1) n with
    | true => rw [if_pos (Nat.le_of_ble_eq_true hb)]; exact ET.updK_eq _ _ _ _
    | false =>
      rw [if_neg]
      intro h
      rw [Nat.ble_eq_true_of_le h] at hb
      cases hb
theorem putD_ok {d n : Nat} {t : ET} (hp : Perf d t) (hn : n ≤ 2 ^ d) (x : Option Tmp) (r : AV) : Perf d (putD n t x r) ∧ toL n (putD n t x r) = putA (toL n t) x r := by
  cases x with
  | none => exact ⟨hp, rfl⟩
  | some i =>
    simp only [putD, putA]
    by_cases hi : i + 1 ≤ n
    · rw [if_pos hi]
      exact ⟨hp.upd r i, toL_upd hp hn r i hi⟩
    · rw [if_neg hi]
      refine ⟨hp, ?_⟩
      rw [List.set_eq_of_length_le]
      rw [toL_length]; exact Nat.le_of_not_lt hi
noncomputable def wantT (n : Nat) (t : ET) (g : Option (Tmp × Bool)) : Option Bool :=
  match g with
  | none => some true
  | some (i, want) => match (Bool.rec (motive := fun _ => AV) .any (t.get i) (Nat.ble (i + 1) n) : AV) with
    | .pl (.bool b) => some (b == want)
    | .tup [] => some false
    | _ => none
theorem wantT_eq (n : Nat) (t : ET) (g : Option (Tmp × Bool)) : wantT n t g = wantA (toL n t) g := by
  unfold wantT wantA
  cases g with
  | none => rfl
  | some p => obtain ⟨i, w⟩ := p; simp only [getT_eq]; rfl
noncomputable def evOpT (run : Run) (n : Nat) (t : ET) (σ : St) (o : AOp) : Option (AV × St) :=
  match o with
  | .prim ao => aopT ao (fevT n t) σ
  | .call f args => match fevT n t f with
    | .fn g fs cs => run g (fs ++ args.map (fevT n t) ++ cs) σ
    | _ => none
  | .fresh m d x => if d < n ∧ (fevT n t x).okc ∧ (fevT n t x).cells.length = m then some (.rp (fevT n t x).cells, σ) else none
  | .flo _ | .adopt _ _ _ _ => none
theorem aopT_eq (ρ : Operand → AV) (σ : St) (ao : AO) : aopT ao ρ σ = aop ρ σ ao := aopF_eq ρ σ ao
theorem evOpT_eq (run : Run) (n : Nat) (t : ET) (σ : St) (o : AOp) : evOpT run n t σ o = evOp run (toL n t) σ o := by
  unfold evOpT evOp
  simp only [fevT_eq, aopT_eq, toL_length]; rfl
noncomputable def evOpsT (run : Run) (n : Nat) (l : List AOper) : ET → St → OutT :=
  List.rec (motive := fun _ => ET → St → OutT) (fun t σ => some (t, σ))
    (fun o _ ih t σ => match wantT n t o.guard with
      | some true => match evOpT run n t σ o.op with
        | some (r, σ') => frcWT r fun r => putT n t o.dst r fun t' => frcORT o.op σ' fun σ' => ih t' σ'
        | none => none
      | some false => putT n t o.dst (.tup []) fun t' => ih t' σ
      | none => none) l
theorem evOpsT_ok (run : Run) {d n : Nat} (hn : n ≤ 2 ^ d) : ∀ (l : List AOper) (t : ET) (σ : St) (t' : ET) (σ' : St), Perf d t → evOpsT run n l t σ = some (t', σ') → Perf d t' ∧ evOps run l (toL n t) σ = some (toL n t', σ')
  | [], t, σ, t', σ', hp, h => by
    have e : evOpsT run n [] t σ = some (t, σ) := rfl
    rw [e] at h
    simp only [Option.some.injEq, Prod.mk.injEq] at h
    obtain ⟨rfl, rfl⟩ := h
    exact ⟨hp, rfl⟩
  | o :: os, t, σ, t', σ', hp, h => by
    have e : evOpsT run n (o :: os) t σ = (match wantT n t o.guard with
      | some true => match evOpT run n t σ o.op with
        | some (r, σ') => frcWT r fun r => putT n t o.dst r fun t' => frcORT o.op σ' fun σ' => evOpsT run n os t' σ'
        | none => none
      | some false => putT n t o.dst (.tup []) fun t' => evOpsT run n os t' σ
      | none => none) := rfl
    rw [e] at h
    simp only [wantT_eq, evOpT_eq, frcWT_eq, putT_eq, frcORT_eq] at h
    simp only [evOps, frcV_eq, frcL_eq, frcO_eq]
    split at h
    · rename_i hw
      simp only [hw]
      split at h
      · rename_i r s hr
        simp only [hr]
        obtain ⟨h1, h2⟩ := putD_ok hp hn o.dst r
        rw [← h2]
        exact evOpsT_ok run hn os _ _ _ _ h1 h
      · cases h
    · rename_i hw
      simp only [hw]
      obtain ⟨h1, h2⟩ := putD_ok hp hn o.dst (.tup [])
      rw [← h2]
      exact evOpsT_ok run hn os _ _ _ _ h1 h
    · cases h
noncomputable def stayBT (n : Nat) (t : ET) (ao : AO) (r : AV) (s : St) : Bool :=
  match aopT ao (fevT n t) s with
  | some (r', _) => r.same r'
  | none => false
theorem stayBT_eq (n : Nat) (t : ET) (ao : AO) (r : AV) : stayBT n t ao r = stayB (toL n t) ao r := by
  funext s; unfold stayBT stayB; rw [fevT_eq, aopT_eq]; rfl
noncomputable def stayCT (run : Run) (n : Nat) (t : ET) (o : AOp) (r : AV) (s : St) : Bool :=
  match evOpT run n t s o with
  | some (r', s') => r.same r' && sameSt s s'
  | none => false
theorem stayCT_eq (run : Run) (n : Nat) (t : ET) (o : AOp) (r : AV) : stayCT run n t o r = stayC run (toL n t) o r := by
  funext s; unfold stayCT stayC; rw [evOpT_eq]; rfl
noncomputable def evDsT (run : Run) (n : Nat) (l : List DOper) : ET → List St → St → (List St → Bool) → OutT :=
  List.rec (motive := fun _ => ET → List St → St → (List St → Bool) → OutT) (fun t S σ ob => if ob S then some (t, σ) else none)
    (fun d _ ih t S σ ob => match wantT n t d.o.guard with
    | some true => if d.eff then (match evOpT run n t σ d.o.op with
        | some (r, σ') => frcWT r fun r => putT n t d.o.dst r fun t' => frcORT d.o.op σ' fun σ' => ih t' (S ++ [σ']) σ' ob
        | none => none)
      else (match d.o.op with
        | .prim ao => match aopT ao (fevT n t) σ with
          | some (r, _) => frcWT r fun r => putT n t d.o.dst r fun t' => if ao.free then ih t' S σ ob
            else if ao.still then ih t' S σ (fun T => ob T && ((T.take (d.hi + 1)).drop d.lo).all (stayBT n t ao r))
            else none
          | none => none
        | .call f args => match evOpT run n t σ (.call f args) with
          | some (r, σ') => frcWT r fun r => putT n t d.o.dst r fun t' => if sameSt σ σ' then
              ih t' S σ (fun T => ob T && ((T.take (d.hi + 1)).drop d.lo).all (stayCT run n t (.call f args) r)) else none
          | none => none
        | _ => none)
    | some false => putT n t d.o.dst (.tup []) fun t' => ih t' (if d.eff then S ++ [σ] else S) σ ob
    | none => none) l
theorem evDsT_ok (run : Run) {dd n : Nat} (hn : n ≤ 2 ^ dd) : ∀ (l : List DOper) (t : ET) (S : List St) (σ : St) (ob : List St → Bool) (t' : ET) (σ' : St), Perf dd t → evDsT run n l t S σ ob = some (t', σ') →
    Perf dd t' ∧ evDs run l (toL n t) S σ ob = some (toL n t', σ')
  | [], t, S, σ, ob, t', σ', hp, h => by
    have e : evDsT run n [] t S σ ob = if ob S then some (t, σ) else none := rfl
    rw [e] at h
    split at h
    · rename_i hb
      simp only [Option.some.injEq, Prod.mk.injEq] at h
      obtain ⟨rfl, rfl⟩ := h
      exact ⟨hp, by simp only [evDs, hb, if_true]⟩
    · cases h
  | d :: ds, t, S, σ, ob, t', σ', hp, h => by
    have e : evDsT run n (d :: ds) t S σ ob = (match wantT n t d.o.guard with
    | some true => if d.eff then (match evOpT run n t σ d.o.op with
        | some (r, σ') => frcWT r fun r => putT n t d.o.dst r fun t' => frcORT d.o.op σ' fun σ' => evDsT run n ds t' (S ++ [σ']) σ' ob
        | none => none)
      else (match d.o.op with
        | .prim ao => match aopT ao (fevT n t) σ with
          | some (r, _) => frcWT r fun r => putT n t d.o.dst r fun t' => if ao.free then evDsT run n ds t' S σ ob
            else if ao.still then evDsT run n ds t' S σ (fun T => ob T && ((T.take (d.hi + 1)).drop d.lo).all (stayBT n t ao r))
            else none
          | none => none
        | .call f args => match evOpT run n t σ (.call f args) with
          | some (r, σ') => frcWT r fun r => putT n t d.o.dst r fun t' => if sameSt σ σ' then
              evDsT run n ds t' S σ (fun T => ob T && ((T.take (d.hi + 1)).drop d.lo).all (stayCT run n t (.call f args) r)) else none
          | none => none
        | _ => none)
    | some false => putT n t d.o.dst (.tup []) fun t' => evDsT run n ds t' (if d.eff then S ++ [σ] else S) σ ob
    | none => none) := rfl
    rw [e] at h
    simp only [wantT_eq, evOpT_eq, aopT_eq, fevT_eq, stayBT_eq, stayCT_eq, frcWT_eq, putT_eq, frcORT_eq] at h
    simp only [evDs, frcV_eq, frcL_eq, frcO_eq]
    split at h
    · rename_i hw
      simp only [hw]
      split at h
      · rename_i he
        simp only [he, if_true]
        split at h
        · rename_i r s hr
          simp only [hr]
          obtain ⟨h1, h2⟩ := putD_ok hp hn d.o.dst r
          rw [← h2]
          exact evDsT_ok run hn ds _ _ _ _ _ _ h1 h
        · cases h
      · rename_i he
        simp only [he, Bool.false_eq_true, if_false]
        split at h
        · rename_i ao hao
          simp only [hao]
          split at h
          · rename_i r s hr
            simp only [hr]
            obtain ⟨h1, h2⟩ := putD_ok hp hn d.o.dst r
            rw [← h2]
            split at h
            · rename_i hf
              simp only [hf, if_true]
              exact evDsT_ok run hn ds _ _ _ _ _ _ h1 h
            · rename_i hf
              simp only [hf, Bool.false_eq_true, if_false]
              split at h
              · rename_i hs
                simp only [hs, if_true]
                exact evDsT_ok run hn ds _ _ _ _ _ _ h1 h
              · cases h
          · cases h
        · rename_i f args hao
          simp only [hao]
          split at h
          · rename_i r s hr
            simp only [hr]
            obtain ⟨h1, h2⟩ := putD_ok hp hn d.o.dst r
            rw [← h2]
            split at h
            · rename_i hf
              simp only [hf, if_true]
              exact evDsT_ok run hn ds _ _ _ _ _ _ h1 h
            · cases h
          · cases h
        · cases h
    · rename_i hw
      simp only [hw]
      obtain ⟨h1, h2⟩ := putD_ok hp hn d.o.dst (.tup [])
      rw [← h2]
      exact evDsT_ok run hn ds _ _ _ _ _ _ h1 h
    · cases h
noncomputable def clrT {α : Type} (n : Nat) (ts : List Tmp) : ET → (ET → α) → α :=
  List.rec (motive := fun _ => ET → (ET → α) → α) (fun t k => k t) (fun i _ ih t k => putT n t (some i) .any fun t' => ih t' k) ts
def clrD (n : Nat) : List Tmp → ET → ET
  | [], t => t
  | i :: ts, t => clrD n ts (putD n t (some i) .any)
theorem clrT_eq {α : Type} (n : Nat) : ∀ (ts : List Tmp) (t : ET) (k : ET → α), clrT n ts t k = k (clrD n ts t)
  | [], _, _ => rfl
  | i :: ts, t, k => by
    have e : clrT n (i :: ts) t k = putT n t (some i) .any fun t' => clrT n ts t' k := rfl
    rw [e, putT_eq, clrT_eq n ts]; rfl
theorem clrD_ok {d n : Nat} (hn : n ≤ 2 ^ d) : ∀ (ts : List Tmp) {t : ET}, Perf d t → Perf d (clrD n ts t) ∧ toL n (clrD n ts t) = clearA (toL n t) ts
  | [], t, hp => ⟨hp, rfl⟩
  | i :: ts, t, hp => by
    obtain ⟨h1, h2⟩ := putD_ok hp hn (some i) .any
    obtain ⟨h3, h4⟩ := clrD_ok hn ts h1
    refine ⟨h3, ?_⟩
    rw [clrD, h4, h2]; rfl
noncomputable def fullT (v : AV) (d : Nat) : ET := Nat.rec (motive := fun _ => ET) (.lf v) (fun _ t => .nd t t) d
theorem fullT_perf (v : AV) : ∀ d, Perf d (fullT v d)
  | 0 => ⟨v, rfl⟩
  | d + 1 => ⟨_, _, rfl, fullT_perf v d, fullT_perf v d⟩
theorem fullT_get (v : AV) : ∀ d i, (fullT v d).get i = v
  | 0, _ => rfl
  | d + 1, i => by
    have e : fullT v (d + 1) = .nd (fullT v d) (fullT v d) := rfl
    rw [e, ET.get_nd]
    split <;> exact fullT_get v d _
noncomputable def layT {α : Type} (n : Nat) (l : List AV) : Nat → ET → (ET → α) → α :=
  List.rec (motive := fun _ => Nat → ET → (ET → α) → α) (fun _ t k => k t) (fun x _ ih i t k => putT n t (some i) x fun t' => ih (i + 1) t' k) l
def layD (n : Nat) : List AV → Nat → ET → ET
  | [], _, t => t
  | x :: xs, i, t => layD n xs (i + 1) (putD n t (some i) x)
theorem layT_eq {α : Type} (n : Nat) : ∀ (l : List AV) (i : Nat) (t : ET) (k : ET → α), layT n l i t k = k (layD n l i t)
  | [], _, _, _ => rfl
  | x :: xs, i, t, k => by
    have e : layT n (x :: xs) i t k = putT n t (some i) x fun t' => layT n xs (i + 1) t' k := rfl
    rw [e, putT_eq, layT_eq n xs]; rfl
theorem layD_ok {d n : Nat} (hn : n ≤ 2 ^ d) : ∀ (l : List AV) (i : Nat) (t : ET), Perf d t → i + l.length ≤ n → Perf d (layD n l i t) ∧ toL n (layD n l i t) = (toL n t).take i ++ l ++ (toL n t).drop (i + l.length)
  | [], i, t, hp, hl => ⟨hp, by simp [layD]⟩
  | x :: xs, i, t, hp, hl => by
    simp only [List.length_cons] at hl
    obtain ⟨h1, h2⟩ := putD_ok hp hn (some i) x
    obtain ⟨h3, h4⟩ := layD_ok hn xs (i + 1) _ h1 (by omega)
    refine ⟨h3, ?_⟩
    rw [layD, h4, h2]
    have hlen := toL_length n t
    simp only [putA, List.length_cons]
    rw [List.take_set, List.drop_set_of_lt (by omega)]
    have e1 : ((toL n t).take (i + 1)).set i x = (toL n t).take i ++ [x] := by
      apply List.ext_getElem
      · simp; omega
      · intro j h5 h6
        simp only [List.length_set, List.length_take] at h5
        rw [List.getElem_set]
        by_cases hij : i = j
        · subst hij
          rw [if_pos rfl, List.getElem_append_right (by rw [List.length_take]; exact Nat.min_le_left _ _)]
          simp
        · rw [if_neg hij, List.getElem_append_left (by simp; omega)]
          simp
    rw [e1]
    rw [show i + 1 + xs.length = i + (xs.length + 1) by omega]
    simp only [List.append_assoc, List.cons_append, List.nil_append]
noncomputable def evGT (n0 n d : Nat) (g : Ghost) (t : ET) (σ : St) : Option (ET × St) :=
  match evG n0 g (toL n t) σ with
  | some (env', σ') => Bool.rec (motive := fun _ => Option (ET × St)) none (layT n env' 0 (fullT .any d) fun t' => frcT σ' fun σ' => some (t', σ')) (Nat.beq env'.length n)
  | none => none
theorem evGT_ok {n0 n d : Nat} (hn : n ≤ 2 ^ d) {g : Ghost} {t t' : ET} {σ σ' : St} (h : evGT n0 n d g t σ = some (t', σ')) : Perf d t' ∧ evG n0 g (toL n t) σ = some (toL n t', σ') := by
  unfold evGT at h
  split at h
  · rename_i env' s he
    cases hb : Nat.beq env'.length n with
    | false => rw [hb] at h; cases h
    | true =>
      rw [hb] at h
      have hl := Nat.eq_of_beq_eq_true hb
      simp only [layT_eq, frcT_eq, Option.some.injEq, Prod.mk.injEq] at h
      obtain ⟨rfl, rfl⟩ := h
      obtain ⟨h1, h2⟩ := layD_ok hn env' 0 (fullT .any d) (fullT_perf _ _) (by omega)
      refine ⟨h1, ?_⟩
      rw [he, h2]
      simp [toL_length, hl, List.drop_eq_nil_of_le]
  · cases h
noncomputable def iterT (step : ET → St → Option (AExit × ET × St)) (nn : Nat) (clr : List Tmp) (n : Nat) : ET → St → Option (AExit × ET × St) :=
  Nat.rec (motive := fun _ => ET → St → Option (AExit × ET × St)) (fun _ _ => none) (fun _ ih t σ => match step t σ with
    | some (.normal, t', σ') => clrT nn clr t' fun t' => ih t' σ'
    | r => r) n
noncomputable def evCT (run : Run) (n d n0 m : Nat) (x : ACode) : ET → St → Option (AExit × ET × St) :=
  ACode.rec (motive := fun _ => ET → St → Option (AExit × ET × St))
    (fun t σ => some (.normal, t, σ))
    (fun l t σ => match evOpsT run n l t σ with
      | some (t', σ') => some (.normal, t', σ')
      | none => none)
    (fun l t σ => match evDsT run n l t [σ] σ (fun _ => true) with
      | some (t', σ') => some (.normal, t', σ')
      | none => none)
    (fun _ _ iha ihb t σ => match iha t σ with
      | some (.normal, t', σ') => ihb t' σ'
      | r => r)
    (fun c _ _ iha ihb t σ => match boolA (fevT n t c) with
      | some true => iha t σ
      | some false => ihb t σ
      | none => none)
    (fun id _ iha t σ => match iha t σ with
      | some (.exit j, t', σ') => if j = id then some (.normal, t', σ') else some (.exit j, t', σ')
      | r => r)
    (fun clr _ iha t σ => clrT n clr t fun t => iterT iha n clr m t σ)
    (fun id t σ => some (.exit id, t, σ))
    (fun t σ => some (.ret, t, σ))
    (fun g _ iha t σ => match evGT n0 n d g t σ with
      | some (t', σ') => iha t' σ'
      | none => none)
    (fun _ g iha t σ => match iha t σ with
      | some (.normal, t', σ') => (match evGT n0 n d g t' σ' with
        | some (t'', σ'') => some (.normal, t'', σ'')
        | none => none)
      | r => r) x
theorem evCT_ok (run : Run) {n d n0 m : Nat} (hn : n ≤ 2 ^ d) : ∀ (x : ACode) (t : ET) (σ : St) (e : AExit) (t' : ET) (σ' : St), Perf d t → evCT run n d n0 m x t σ = some (e, t', σ') →
    Perf d t' ∧ evC run n0 m x (toL n t) σ = some (e, toL n t', σ') := by
  intro x
  induction x with
  | skip =>
    intro t σ e t' σ' hp h
    have e0 : evCT run n d n0 m .skip t σ = some (.normal, t, σ) := rfl
    rw [e0] at h
    simp only [Option.some.injEq, Prod.mk.injEq] at h; obtain ⟨rfl, rfl, rfl⟩ := h
    exact ⟨hp, rfl⟩
  | ops l =>
    intro t σ e t' σ' hp h
    have e0 : evCT run n d n0 m (.ops l) t σ = (match evOpsT run n l t σ with | some (t', σ') => some (.normal, t', σ') | none => none) := rfl
    rw [e0] at h
    split at h
    · rename_i h1
      simp only [Option.some.injEq, Prod.mk.injEq] at h; obtain ⟨rfl, rfl, rfl⟩ := h
      obtain ⟨h2, h3⟩ := evOpsT_ok run hn _ _ _ _ _ hp h1
      exact ⟨h2, by simp only [evC, h3]⟩
    · cases h
  | draw l =>
    intro t σ e t' σ' hp h
    have e0 : evCT run n d n0 m (.draw l) t σ = (match evDsT run n l t [σ] σ (fun _ => true) with | some (t', σ') => some (.normal, t', σ') | none => none) := rfl
    rw [e0] at h
    split at h
    · rename_i h1
      simp only [Option.some.injEq, Prod.mk.injEq] at h; obtain ⟨rfl, rfl, rfl⟩ := h
      obtain ⟨h2, h3⟩ := evDsT_ok run hn _ _ _ _ _ _ _ hp h1
      exact ⟨h2, by simp only [evC, h3]⟩
    · cases h
  | seq a b iha ihb =>
    intro t σ e t' σ' hp h
    have e0 : evCT run n d n0 m (.seq a b) t σ = (match evCT run n d n0 m a t σ with | some (.normal, t', σ') => evCT run n d n0 m b t' σ' | r => r) := rfl
    rw [e0] at h
    split at h
    · rename_i h1
      obtain ⟨h2, h3⟩ := iha _ _ _ _ _ hp h1
      obtain ⟨h4, h5⟩ := ihb _ _ _ _ _ h2 h
      exact ⟨h4, by simp only [evC, h3, h5]⟩
    · rename_i hne
      obtain ⟨h2, h3⟩ := iha _ _ _ _ _ hp h
      refine ⟨h2, ?_⟩
      simp only [evC, h3]
      cases e with
      | normal => exact absurd h (hne _ _)
      | exit => rfl
      | ret => rfl
  | cond c a b iha ihb =>
    intro t σ e t' σ' hp h
    have e0 : evCT run n d n0 m (.cond c a b) t σ = (match boolA (fevT n t c) with | some true => evCT run n d n0 m a t σ | some false => evCT run n d n0 m b t σ | none => none) := rfl
    rw [e0, fevT_eq] at h
    split at h
    · rename_i h1
      obtain ⟨h2, h3⟩ := iha _ _ _ _ _ hp h
      exact ⟨h2, by simp only [evC, h1, h3]⟩
    · rename_i h1
      obtain ⟨h2, h3⟩ := ihb _ _ _ _ _ hp h
      exact ⟨h2, by simp only [evC, h1, h3]⟩
    · cases h
  | block id a iha =>
    intro t σ e t' σ' hp h
    have e0 : evCT run n d n0 m (.block id a) t σ = (match evCT run n d n0 m a t σ with | some (.exit j, t', σ') => if j = id then some (AExit.normal, t', σ') else some (AExit.exit j, t', σ') | r => r) := rfl
    rw [e0] at h
    split at h
    · rename_i j _ _ h1
      obtain ⟨h2, h3⟩ := iha _ _ _ _ _ hp h1
      split at h
      · rename_i hj
        simp only [Option.some.injEq, Prod.mk.injEq] at h; obtain ⟨rfl, rfl, rfl⟩ := h
        exact ⟨h2, by simp only [evC, h3, if_pos hj]⟩
      · rename_i hj
        simp only [Option.some.injEq, Prod.mk.injEq] at h; obtain ⟨rfl, rfl, rfl⟩ := h
        exact ⟨h2, by simp only [evC, h3, if_neg hj]⟩
    · rename_i hne
      obtain ⟨h2, h3⟩ := iha _ _ _ _ _ hp h
      refine ⟨h2, ?_⟩
      simp only [evC, h3]
      cases e with
      | normal => rfl
      | exit j => exact absurd h (hne _ _ _)
      | ret => rfl
  | loop clr a iha =>
    intro t σ e t' σ' hp h
    have e0 : evCT run n d n0 m (.loop clr a) t σ = clrT n clr t fun t => iterT (evCT run n d n0 m a) n clr m t σ := rfl
    rw [e0, clrT_eq] at h
    have key : ∀ (k : Nat) (t : ET) (σ : St), Perf d t → iterT (evCT run n d n0 m a) n clr k t σ = some (e, t', σ') → Perf d t' ∧ iter (evC run n0 m a) clr k (toL n t) σ = some (e, toL n t', σ') := by
      intro k
      induction k with
      | zero => intro t σ _ h; cases h
      | succ k ih =>
        intro t σ hp h
        have e1 : iterT (evCT run n d n0 m a) n clr (k + 1) t σ = (match evCT run n d n0 m a t σ with
          | some (.normal, t', σ') => clrT n clr t' fun t' => iterT (evCT run n d n0 m a) n clr k t' σ'
          | r => r) := rfl
        rw [e1] at h
        simp only [clrT_eq] at h
        simp only [iter, frcL_eq]
        split at h
        · rename_i t1 s1 h1
          obtain ⟨h2, h3⟩ := iha _ _ _ _ _ hp h1
          obtain ⟨h4, h5⟩ := clrD_ok hn clr h2
          simp only [h3]
          rw [← h5]
          exact ih _ _ h4 h
        · rename_i hne
          obtain ⟨h2, h3⟩ := iha _ _ _ _ _ hp h
          refine ⟨h2, ?_⟩
          simp only [h3]
          cases e with
          | normal => exact absurd h (hne _ _)
          | exit => rfl
          | ret => rfl
    obtain ⟨h4, h5⟩ := clrD_ok hn clr hp
    obtain ⟨h6, h7⟩ := key m _ _ h4 h
    refine ⟨h6, ?_⟩
    simp only [evC, frcL_eq]
    rw [← h5]; exact h7
  | exit id =>
    intro t σ e t' σ' hp h
    have e0 : evCT run n d n0 m (.exit id) t σ = some (.exit id, t, σ) := rfl
    rw [e0] at h
    simp only [Option.some.injEq, Prod.mk.injEq] at h; obtain ⟨rfl, rfl, rfl⟩ := h
    exact ⟨hp, rfl⟩
  | ret =>
    intro t σ e t' σ' hp h
    have e0 : evCT run n d n0 m .ret t σ = some (.ret, t, σ) := rfl
    rw [e0] at h
    simp only [Option.some.injEq, Prod.mk.injEq] at h; obtain ⟨rfl, rfl, rfl⟩ := h
    exact ⟨hp, rfl⟩
  | ghost g a iha =>
    intro t σ e t' σ' hp h
    have e0 : evCT run n d n0 m (.ghost g a) t σ = (match evGT n0 n d g t σ with | some (t', σ') => evCT run n d n0 m a t' σ' | none => none) := rfl
    rw [e0] at h
    split at h
    · rename_i h1
      obtain ⟨h2, h3⟩ := evGT_ok hn h1
      obtain ⟨h4, h5⟩ := iha _ _ _ _ _ h2 h
      exact ⟨h4, by simp only [evC, frcL_eq, frcT_eq, h3, h5]⟩
    · cases h
  | after a g iha =>
    intro t σ e t' σ' hp h
    have e0 : evCT run n d n0 m (.after a g) t σ = (match evCT run n d n0 m a t σ with
      | some (.normal, t', σ') => (match evGT n0 n d g t' σ' with
        | some (t'', σ'') => some (AExit.normal, t'', σ'')
        | none => none)
      | r => r) := rfl
    rw [e0] at h
    split at h
    · rename_i h1
      obtain ⟨h2, h3⟩ := iha _ _ _ _ _ hp h1
      split at h
      · rename_i h4
        simp only [Option.some.injEq, Prod.mk.injEq] at h; obtain ⟨rfl, rfl, rfl⟩ := h
        obtain ⟨h5, h6⟩ := evGT_ok hn h4
        exact ⟨h5, by simp only [evC, frcL_eq, frcT_eq, h3, h6]⟩
      · cases h
    · rename_i hne
      obtain ⟨h2, h3⟩ := iha _ _ _ _ _ hp h
      refine ⟨h2, ?_⟩
      simp only [evC, h3]
      cases e with
      | normal => exact absurd h (hne _ _)
      | exit => rfl
      | ret => rfl
noncomputable def evFBT {P : Program} (C : List (Fun P)) (E : List (Ext P)) (m : Nat) (run : Run) : Run := fun f args σ =>
  match findR f C with
  | some F => Bool.rec (motive := fun _ => Option (AV × St)) none (match layT F.n args 0 (fullT .any (Nat.log2 F.n + 1)) fun t => evCT run F.n (Nat.log2 F.n + 1) σ.length m F.x t σ with
    | some (.exit _, _, _) => none
    | some (_, t', σ') => match resA (toL F.n t') σ' F.rvs with
      | some r => some (trimmed σ.length r σ')
      | none => none
    | none => none) (Nat.ble args.length F.n)
  | none => match findE f E with
    | some X => X.go args σ
    | none => none
theorem evFBT_ok {P : Program} (C : List (Fun P)) (E : List (Ext P)) (m : Nat) (run : Run) (f : FuncId) (args : List AV) (σ : St) (r : AV) (σ' : St) (h : evFBT C E m run f args σ = some (r, σ')) :
    evFB C E m run f args σ = some (r, σ') := by
  unfold evFBT at h
  unfold evFB
  rw [findR_eq] at h
  split at h
  · rename_i F hF
    simp only [hF, frcL_eq]
    cases hb : Nat.ble args.length F.n with
    | false => rw [hb] at h; cases h
    | true =>
      rw [hb] at h
      have hl := Nat.le_of_ble_eq_true hb
      have hn : F.n ≤ 2 ^ (Nat.log2 F.n + 1) := Nat.le_of_lt Nat.lt_log2_self
      simp only [layT_eq] at h
      obtain ⟨h1, h2⟩ := layD_ok hn args 0 (fullT .any (Nat.log2 F.n + 1)) (fullT_perf _ _) (by omega)
      have e1 : toL F.n (fullT .any (Nat.log2 F.n + 1)) = List.replicate F.n .any := by
        apply List.ext_getElem
        · simp [toL]
        · intro i h3 h4
          simp [toL, fullT_get]
      have e2 : toL F.n (layD F.n args 0 (fullT .any (Nat.log2 F.n + 1))) = args ++ List.replicate (F.n - args.length) .any := by
        rw [h2, e1]; simp
      split at h
      · cases h
      · rename_i e t' s hne he
        obtain ⟨h3, h4⟩ := evCT_ok run hn _ _ _ _ _ _ h1 he
        rw [e2] at h4
        simp only [h4]
        cases e with
        | exit id => exact absurd rfl (hne id)
        | normal => exact h
        | ret => exact h
      · cases h
  · rename_i hF
    simp only [hF]
    exact h
noncomputable def evFT {P : Program} (C : List (Fun P)) (E : List (Ext P)) (Ms : List (Memo P)) (m k : Nat) : Run :=
  Nat.rec (motive := fun _ => Run) (fun _ _ _ => none) (fun _ ih f args σ => match findM f args σ Ms with
    | some p => some p
    | none => evFBT C E m ih f args σ) k
theorem evFT_ok {P : Program} (C : List (Fun P)) (E : List (Ext P)) (Ms : List (Memo P)) (m : Nat) : ∀ (k : Nat) (f : FuncId) (args : List AV) (σ : St) (r : AV) (σ' : St), evFT C E Ms m k f args σ = some (r, σ') → Ans P f args σ r σ'
  | 0, _, _, _, _, _, h => by cases h
  | k + 1, f, args, σ, r, σ', h => by
    have e : evFT C E Ms m (k + 1) f args σ = (match findM f args σ Ms with
      | some p => some p
      | none => evFBT C E m (evFT C E Ms m k) f args σ) := rfl
    rw [e] at h
    split at h
    · rename_i p hp
      simp only [Option.some.injEq] at h
      subst h
      exact findM_ok hp
    · exact evFB_ok C E m (evFT_ok C E Ms m k) f args σ r σ' (evFBT_ok C E m _ f args σ r σ' h)
end Go.Ab
namespace Go.Proofs.Ytoadgajhkhejiaa
open Go Go.Ab
/- 177 steps -/
/- 177 steps -/
/- 221 steps -/
/- 133 steps -/
/- 265 steps -/
/- 150 steps -/
/- 150 steps -/
/- 194 steps -/
/- 106 steps -/
/- 238 steps -/
/- 1032 steps -/
/- 128 steps -/
/- 4011 steps -/
/- 1286 steps -/
/- 493 steps -/
/- 1444 steps -/
/- 936 steps -/
/- 843 steps -/
/- 4269 steps -/
/- 85 steps -/
/- 6858 steps -/
theorem mr_ok : Ans Try.prog 14 [] [] (.pl (.bool true)) [] := evFT_ok allF extF [] 300 100 _ _ _ _ _ (by kernel_rfl)
end Go.Proofs.Ytoadgajhkhejiaa
namespace Go.Ab
open Go
section
variable {P : Program} {n0 : Nat} {k : List Fr} {B : Bs} {env : Env} {σ : St} {S : List St} {ob : List St → Prop}
theorem C.split {b : Bool} {x y : ACode} (h : b = true → C P n0 true x y k B env σ) (h' : b = false → C P n0 false x y k B env σ) : C P n0 b x y k B env σ := by
  cases b
  · exact h' rfl
  · exact h rfl
theorem OG.split {b : Bool} {d : Option Tmp} {op : AOp} {l : List AOper} (h : b = true → OG P n0 true d op l k B env σ) (h' : b = false → OG P n0 false d op l k B env σ) : OG P n0 b d op l k B env σ := by
  cases b
  · exact h' rfl
  · exact h rfl
theorem DG.split {b : Bool} {d : Option Tmp} {op : AOp} {bef : List Nat} {eff : Bool} {lo hi : Nat} {l : List DOper} (h : b = true → DG P n0 true d op bef eff lo hi l k B env S σ ob) (h' : b = false → DG P n0 false d op bef eff lo hi l k B env S σ ob) : DG P n0 b d op bef eff lo hi l k B env S σ ob := by
  cases b
  · exact h' rfl
  · exact h rfl
theorem L.scan (n : Nat) (ok : Nat → Bool) (E : Nat → Env) (Z : Nat → St) {clr : List Tmp} {x : ACode}
    (h : ∀ i, i < n → (∀ j, j < i → ok j = true) → ∀ J : Env → St → Prop, (ok i = true → J (E (i + 1)) (Z (i + 1))) → R P n0 x (.loop J clr :: k) B (E i) (Z i))
    (h' : (∀ j, j < n → ok j = true) → ∀ J : Env → St → Prop, R P n0 x (.loop J clr :: k) B (E n) (Z n)) (he : env = E 0) (hs : σ = Z 0) : L P n0 clr x k B env σ := by
  refine L.intro (α := { i : Nat // i ≤ n ∧ ∀ j, j < i → ok j = true }) (fun i => n - i.1) (fun i => E i.1) (fun i => Z i.1) (fun ⟨i, hi, hp⟩ J hJ => ?_) ⟨0, Nat.zero_le _, by intro j hj; omega⟩ he hs
  by_cases hlt : i < n
  · exact h i hlt hp J fun hok => hJ ⟨i + 1, hlt, fun j hj => by
      by_cases hji : j = i
      · rw [hji]; exact hok
      · exact hp j (by omega)⟩ (by simp only; omega)
  · have : i = n := by omega
    subst this
    exact h' hp J
theorem Fini.ret' {m : Nat} {rvs : List RV} {r r' : AV} (h : resA env σ rvs = some r') (e : r' = r) : Fini m rvs r σ .ret env σ := Fini.ret (e ▸ h)
theorem bo_congr {a b : Bool} (h : a = b) : AV.pl (.bool a) = AV.pl (.bool b) := by rw [h]
theorem int_congr {k : IntKind} {a b : Int} (h : a = b) : AV.pl (.int k a) = AV.pl (.int k b) := by rw [h]
end
end Go.Ab
namespace Go.Ab
open Go
attribute [go_sem] R_seq R_skip R_ret R_exit R_ops R_draw R_block R_after R_ghost R_cond R_loop N_seq N_block N_after N_loop N_nil X_seq X_after X_loop X_block T_seq T_block T_after T_loop T_nil C_true C_false O_nil O_prim O_fresh O_guard OG_true OG_false O_call D_nil D_eff D_stay D_flo D_adopt D_guard DG_true DG_false D_call put_some put_none aop aev tmpA wantA cval AV.okc AV.one AV.cells loadA ldc boolA intA clearA srcA setElem fillA lsplice binF unF isB chunks repeatA eqCells eqCell Value.oneCell' G gh sealV sealL List.cons_append List.nil_append List.append_nil List.length_cons List.length_nil List.set_cons_zero List.set_cons_succ List.getD_cons_zero List.getD_cons_succ List.drop_succ_cons List.drop_zero List.take_succ_cons List.take_zero List.head?_cons List.headD_cons Option.map_some Option.getD_some Option.getD_none Option.map_none Option.some.injEq if_true if_false Bool.false_eq_true List.all_cons List.all_nil Bool.and_self Bool.and_true Bool.true_and true_and and_true List.map_cons List.map_nil List.getElem?_cons_zero List.getElem?_cons_succ List.getElem?_nil Nat.zero_add Nat.add_zero ite_true ite_false Bool.not_true Bool.not_false Bool.not_eq_true' decide_true decide_false List.forall_mem_cons List.not_mem_nil false_imp_iff implies_true forall_const List.isEmpty_cons List.isEmpty_nil Nat.le_refl Int.toNat_natCast Int.natCast_nonneg beq_self_eq_true beq_true beq_false Bool.true_xor Bool.false_xor
end Go.Ab
namespace Go.Ab
open Go
theorem Rep.of_bel {M : Nat → Prop} {R R' : Ref → Value → Prop} {w : World} {x : AV} {v : Value} (hb : Bel 0 x) (h : Rep M R w x v) : Rep M R' w x v := by
  induction h with
  | any v => exact .any v
  | pl v => exact .pl v
  | nils => exact .nils
  | sl0 sz a cap => exact .sl0 sz a cap
  | sl sz xs b o cap f hcap hc _ ih =>
    refine .sl sz xs b o cap f hcap hc fun i j hi hj => ih i j hi hj ?_
    cases hb with
    | sl _ _ h =>
      have := h i hi
      revert hj
      cases hx : xs[i] with
      | agg cs => intro hj; rw [hx] at this; cases this with | agg _ h' => exact h' j hj
      | _ => intro hj; rw [hx] at this; simpa [AV.cells] using this
  | rp cs b o f hc _ ih =>
    refine .rp cs b o f hc fun j hj => ih j hj ?_
    cases hb with
    | rp _ h => exact h j hj
  | ptr l off b o h => cases hb with | ptr _ _ h => exact absurd h (Nat.not_lt_zero _)
  | osl l n a len cap h => cases hb with | osl _ _ h => exact absurd h (Nat.not_lt_zero _)
  | ep l n i off b o h => cases hb with | ep _ _ _ _ h => exact absurd h (Nat.not_lt_zero _)
  | psl l off n b o h => cases hb with | psl _ _ _ h => exact absurd h (Nat.not_lt_zero _)
  | zsl a => exact .zsl a
  | win sz l n lo b o cap hl h => cases hb with | win _ _ _ _ h => exact absurd h (Nat.not_lt_zero _)
  | agg cs vs hl _ ih =>
    refine .agg cs vs hl fun j hj hj' => ih j hj hj' ?_
    cases hb with
    | agg _ h => exact h j hj
  | tup cs vs hl _ ih =>
    refine .tup cs vs hl fun j hj hj' => ih j hj hj' ?_
    cases hb with
    | tup _ h => exact h j hj
  | fn g fs cs us vs hl hl' _ _ ih ih' =>
    cases hb with
    | fn _ _ _ h h' => exact .fn g fs cs us vs hl hl' (fun j hj hj' => ih j hj hj' (h j hj)) (fun j hj hj' => ih' j hj hj' (h' j hj))
theorem After.frame {M : Nat → Prop} {σ : St} {ν : Nat → Value} {w w' : World} {r : AV} {v : Value} (g : Good M σ ν w) (h : After M [] ν w r [] v w') : After M σ ν w r σ v w' := by
  obtain ⟨M', ν', g', l, hr⟩ := h
  have hno : ∀ b, ¬ Own [] ν b := by
    rintro b ⟨i, ⟨o, ho, _⟩, _⟩
    simp at ho
  have hk : ∀ b, b < w.heap.size → w'.heap[b]? = w.heap[b]? := fun b hb => l.keep b hb (hno b)
  have hMM : ∀ b, b < w.heap.size → (M' b ↔ M b) := fun b hb => ⟨l.mute b hb, fun hm => l.outer b hb hm (hno b)⟩
  refine ⟨M', ν, ⟨fun i o ho => (g.ob i o ho).mono (fun b hb hm => ⟨fun h => hm ((hMM b hb).1 h), hk b hb⟩) (fun _ _ h => h) (fun b hbl hd hm => ?_), g'.lt, g.apart⟩, ?_, ?_⟩
  · have hlt := (g.ob i o ho).lt hd hbl
    exact ⟨(hMM b hlt).2 hm, hk b hlt⟩
  · exact ⟨l.size, fun b hb _ => hk b hb, l.mute, fun b hb hm _ => (hMM b hb).2 hm, fun _ _ h => h, fun _ _ h => h, l.out⟩
  · refine hr.mono (fun b _ hm => ⟨hm, rfl⟩) fun r v h => ?_
    cases r <;> simp [RefOK] at h
theorem Ans.frame {P : Program} {f : FuncId} {args : List AV} {r : AV} (h : Ans P f args [] r []) (hb : ∀ a ∈ args, Bel 0 a) (σ : St) : Ans P f args σ r σ := by
  intro M ν w vs g hr
  have g0 : Good M [] ν w := ⟨fun l o ho => by simp at ho, g.lt, fun l l' b ⟨o, ho, _⟩ => by simp at ho⟩
  have hr0 : Reps M (RefOK [] ν) w args vs := ⟨hr.1, fun j hj hj' => (hr.2 j hj hj').of_bel (hb _ (List.getElem_mem hj))⟩
  rcases h M ν w vs g0 hr0 with ⟨h1, h2⟩ | ⟨v, w', h1, h2⟩
  · refine .inl ⟨h1, ?_⟩
    exact h2.mono fun e w' ⟨v, he, ha⟩ => ⟨v, he, ha.frame g⟩
  · exact .inr ⟨v, w', h1, h2.frame g⟩
end Go.Ab
namespace Go.Ab
open Go
theorem axd_mono {P : Program} {K : Env → St → Prop} : ∀ (ds : List DOper) (env : Env) (S : List St) (σ : St) (ob ob' : List St → Prop), (∀ T, ob T → ob' T) → axd P K ds env S σ ob → axd P K ds env S σ ob'
  | [], env, S, σ, ob, ob', h, hx => ⟨h _ hx.1, hx.2⟩
  | d :: ds, env, S, σ, ob, ob', h, hx => by
    unfold axd at hx ⊢
    cases hw : wantA env d.o.guard with
    | none => rw [hw] at hx; exact hx
    | some b =>
      rw [hw] at hx
      cases b with
      | true =>
        simp only at hx ⊢
        split at hx
        · rename_i he
          rw [if_pos he]
          exact axop_mono (fun r s hk => axd_mono ds _ _ _ _ _ h hk) hx
        · rename_i he
          rw [if_neg he]
          obtain ⟨r, h1, h2⟩ := hx
          exact ⟨r, h1, axd_mono ds _ _ _ _ _ (fun T ht => ⟨h T ht.1, ht.2⟩) h2⟩
      | false => exact axd_mono ds _ _ _ _ _ h hx
section
variable {P : Program} {n0 : Nat} {k : List Fr} {B : Bs} {env : Env} {S : List St} {σ : St} {ob : List St → Prop}
def CS (P : Program) (n0 : Nat) (f : FuncId) (args : List AV) (d : Option Tmp) (lo hi : Nat) (l : List DOper) (k : List Fr) (B : Bs) (env : Env) (S : List St) (σ : St) (ob : List St → Prop) : Prop :=
  ∃ r, Ans P f args σ r σ ∧ D P n0 l k B (putA env d r) S σ (fun T => ob T ∧ ∀ s ∈ (T.take (hi + 1)).drop lo, Ans P f args s r s)
theorem D_callS (d : Option Tmp) (f : Operand) (args : List Operand) (bef : List Nat) (lo hi : Nat) (l : List DOper) : D P n0 (⟨⟨d, none, .call f args⟩, bef, false, lo, hi⟩ :: l) k B env S σ ob = (match aev env f with
    | .fn g fs cs => CS P n0 g (fs ++ args.map (aev env) ++ cs) d lo hi l k B env S σ ob
    | _ => False) := by
  unfold CS D
  simp only [axd, wantA, Bool.false_eq_true, if_false, stay]
  cases aev env f <;> simp
theorem CS.intro {f : FuncId} {args : List AV} {d : Option Tmp} {lo hi : Nat} {l : List DOper} {r : AV} (h : ∀ s, Ans P f args s r s) (h' : D P n0 l k B (putA env d r) S σ ob) : CS P n0 f args d lo hi l k B env S σ ob := by
  refine ⟨r, h σ, ?_⟩
  unfold D at h' ⊢
  exact axd_mono _ _ _ _ _ _ (fun T ht => ⟨ht, fun s _ => h s⟩) h'
end
end Go.Ab
namespace Go.Proofs.Ytoadgajhkhejiaa
open Go Go.Ab
set_option maxRecDepth 100000
abbrev I (n : Int) : AV := .pl (.int .i64 n)
abbrev Bo (b : Bool) : AV := .pl (.bool b)
abbrev Sx (s : ByteArray) : AV := .pl (.string s)
theorem wrapN {n : Int} (h : -9223372036854775808 ≤ n) (h' : n < 9223372036854775808) : IntKind.i64.wrap n = n := by
  simp only [IntKind.wrap, IntKind.bits, IntKind.signed]; simp; omega
theorem bel_all {args : List AV} (h : belL 0 args = true) : ∀ a ∈ args, Bel 0 a := fun a ha => by
  obtain ⟨i, hi, rfl⟩ := List.getElem_of_mem ha
  exact Bel.of_mem (belL_ok 0 args h) i hi
theorem Fini.ret2 {n m : Nat} {rvs : List RV} {r r' : AV} {σ σ' : St} {env : Env} (h : resA env σ rvs = some r') (e : r' = r) (e' : σ = σ') : Fini m rvs r σ' .ret env σ := by
  subst e; subst e'; exact Fini.ret h
theorem Fini.trim2 {m : Nat} {rvs : List RV} {r : AV} {σ σ' ex : St} {env : Env} (h : resA env σ rvs = some r) (he : σ = σ' ++ ex) (hl : m ≤ σ'.length) (hb : Bel σ'.length r) (ho : ∀ o ∈ σ', BelO σ'.length o) : Fini m rvs r σ' .ret env σ := by
  subst he
  exact ⟨r, σ' ++ ex, h, rfl, rfl, .inr ⟨hl, by simp, hb, ho⟩⟩
section
variable (σ : St)
abbrev mat (k : Int) (n v : ByteArray) : AV := .agg [I k, Sx n, Sx v]
end
end Go.Proofs.Ytoadgajhkhejiaa
namespace Go.Proofs.Ytoadgajhkhejiaa
open Go Go.Ab
set_option maxRecDepth 100000
abbrev Lab := ByteArray × ByteArray
abbrev lv (x : Lab) : AV := .agg [Sx x.1, Sx x.2]
def lvs (L : List Lab) : List AV := L.map lv
section
variable (σ : St)
theorem nat_lt {i n : Nat} (h : i < n) : ((i : Int) < (n : Nat)) = True := by simp; omega
theorem nat_nlt {i n : Nat} (h : ¬ i < n) : ((i : Int) < (n : Nat)) = False := by simp; omega
theorem dec_lt {i n : Nat} (h : i < n) : decide ((i : Int) < (n : Nat)) = true := by simp; omega
theorem dec_nlt {i n : Nat} (h : ¬ i < n) : decide ((i : Int) < (n : Nat)) = false := by simp; omega
theorem wrap_succ {i : Nat} (h : i ≤ 100000) : IntKind.i64.wrap ((i : Int) + 1) = ((i + 1 : Nat) : Int) := by rw [wrapN (by omega) (by omega)]; rfl
end
end Go.Proofs.Ytoadgajhkhejiaa
namespace Go.Proofs.Ytoadgajhkhejiaa
open Go Go.Ab
set_option maxRecDepth 100000
abbrev noL : Lab := (⟨#[]⟩, ⟨#[]⟩)
def pos (out : List Lab) (x : Lab) : Nat → Nat
  | 0 => 0
  | n + 1 => if Op.bytesLess x.1.toList (out.getD n noL).1.toList then pos out x n else n + 1
theorem B_pl (n : Nat) (v : Value) : Bel n (.pl v) = True := eq_true (.pl v)
theorem B_any (n : Nat) : Bel n .any = True := eq_true .any
theorem B_nils (n : Nat) : Bel n .nils = True := eq_true .nils
theorem B_tup (n : Nat) : Bel n (.tup []) = True := eq_true (.tup _ fun i hi => absurd hi (Nat.not_lt_zero _))
theorem B_sl0 (n k : Nat) : Bel n (.sl k []) = True := eq_true (.sl k [] fun i hi => absurd hi (Nat.not_lt_zero _))
theorem B_osl (n l k : Nat) : Bel n (.osl l k) = (l < n) := by
  apply propext
  constructor
  · intro h; cases h; assumption
  · intro h; exact .osl l k h
theorem B_ptr (n l k : Nat) : Bel n (.ptr l k) = (l < n) := by
  apply propext
  constructor
  · intro h; cases h; assumption
  · intro h; exact .ptr l k h
section
variable (σ : St)
theorem g0 (x : Ob) (ex : St) : (σ ++ x :: ex)[σ.length]? = some x := by rw [List.getElem?_append_right (by simp)]; simp
theorem s0 (x y : Ob) (ex : St) : (σ ++ x :: ex).set σ.length y = σ ++ y :: ex := by rw [List.set_append_right _ _ (by simp)]; simp
end
end Go.Proofs.Ytoadgajhkhejiaa
namespace Go.Proofs.Ytoadgajhkhejiaa
open Go Go.Ab
set_option maxRecDepth 100000
section
variable (σ : St)
theorem g1 (x y : Ob) (ex : St) : (σ ++ x :: y :: ex)[σ.length + 1]? = some y := by rw [List.getElem?_append_right (by simp)]; simp
theorem s1 (x y z : Ob) (ex : St) : (σ ++ x :: y :: ex).set (σ.length + 1) z = σ ++ x :: z :: ex := by rw [List.set_append_right _ _ (by simp)]; simp
end
end Go.Proofs.Ytoadgajhkhejiaa
namespace Go.Ab
open Go
def Sub (a b : AV) : Prop := ∀ (M : Nat → Prop) (R : Ref → Value → Prop) (w : World) (v : Value), Rep M R w a v → Rep M R w b v
theorem Sub.refl (a : AV) : Sub a a := fun _ _ _ _ h => h
theorem Sub.any (a : AV) : Sub a .any := fun _ _ _ v _ => .any v
theorem Sub.nils (sz : Nat) : Sub .nils (.sl sz []) := fun _ _ _ v h => by cases h; exact .sl0 _ _ _
theorem Sub.zsl (sz : Nat) : Sub .zsl (.sl sz []) := fun _ _ _ v h => by cases h; exact .sl0 _ _ _
inductive Subs : List AV → List AV → Prop
  | nil : Subs [] []
  | cons {a b : AV} {as bs : List AV} (h : Sub a b) (t : Subs as bs) : Subs (a :: as) (b :: bs)
theorem Subs.refl : ∀ as : List AV, Subs as as
  | [] => .nil
  | a :: as => .cons (.refl a) (Subs.refl as)
theorem Subs.reps {M : Nat → Prop} {R : Ref → Value → Prop} {w : World} : ∀ {as bs : List AV} {vs : List Value}, Subs as bs → Reps M R w as vs → Reps M R w bs vs
  | _, _, [], .nil, h => h
  | _, _, _ :: _, .nil, h => by simp [Reps] at h
  | _, _, [], .cons _ _, h => by simp [Reps] at h
  | _, _, _ :: _, .cons h t, hr => .cons (h _ _ _ _ hr.head) (t.reps hr.tail)
theorem Sub.tup {as bs : List AV} (h : Subs as bs) : Sub (.tup as) (.tup bs) := fun _ _ _ _ hr => by
  obtain ⟨vs, rfl, h2⟩ := hr.tup_inv
  exact .of_tup (h.reps h2)
theorem Sub.agg {as bs : List AV} (h : Subs as bs) : Sub (.agg as) (.agg bs) := fun _ _ _ _ hr => by
  obtain ⟨vs, rfl, h2⟩ := hr.agg_inv
  exact .of_agg (h.reps h2)
section
variable {P : Program} {f : FuncId} {args args' : List AV} {σ σ' : St} {r r' : AV}
theorem Ans.sub (h : Ans P f args σ r σ') (ha : Subs args' args) (hr : Sub r r') : Ans P f args' σ r' σ' := by
  intro M ν w vs g hvs
  have key : ∀ v w', After M σ ν w r σ' v w' → After M σ ν w r' σ' v w' := fun v w' ⟨M', ν', g', l', r1⟩ => ⟨M', ν', g', l', hr _ _ _ _ r1⟩
  rcases h M ν w vs g (ha.reps hvs) with ⟨h1, h2⟩ | ⟨v, w', h1, h2⟩
  · exact .inl ⟨h1, h2.mono fun e w' ⟨v, he, h3⟩ => ⟨v, he, key v w' h3⟩⟩
  · exact .inr ⟨v, w', h1, key v w' h2⟩
theorem Ans.subR (h : Ans P f args σ r σ') (hr : Sub r r') : Ans P f args σ r' σ' := h.sub (.refl _) hr
theorem Ans.subA (h : Ans P f args σ r σ') (ha : Subs args' args) : Ans P f args' σ r σ' := h.sub ha (.refl _)
theorem Ans.shut {sz n : Nat} {xs : List AV} (h : Ans P f args σ (.osl σ.length n) (σ ++ [.row sz xs])) (hn : n = xs.length) (hb : Bel σ.length (.sl sz xs)) : Ans P f args σ (.sl sz xs) σ := by
  intro M ν w vs g hvs
  have hget : (σ ++ [Ob.row sz xs])[σ.length]? = some (.row sz xs) := by simp
  have hs : sealV (σ ++ [Ob.row sz xs]) (.osl σ.length n) = some (.sl sz xs, (σ ++ [Ob.row sz xs]).set σ.length .dead) := by
    simp only [sealV, hget, hn, if_true]
  have ht : ((σ ++ [Ob.row sz xs]).set σ.length .dead).take σ.length = σ := by simp
  have key : ∀ v w', After M σ ν w (.osl σ.length n) (σ ++ [.row sz xs]) v w' → After M σ ν w (.sl sz xs) σ v w' := by
    rintro v w' ⟨M', ν', g', l', r1⟩
    obtain ⟨M2, g2, l2, r2⟩ := sealV_ok g' hs r1
    have hbo : ∀ o ∈ ((σ ++ [Ob.row sz xs]).set σ.length .dead).take σ.length, BelO σ.length o := by rw [ht]; exact g.bel
    have g3 := g2.take hbo
    have l3 := (l'.trans l2).take (m := σ.length) (Nat.le_refl _)
    have r3 := r2.take hb
    rw [ht] at g3 l3 r3
    exact ⟨M2, ν', g3, l3, r3⟩
  rcases h M ν w vs g hvs with ⟨h1, h2⟩ | ⟨v, w', h1, h2⟩
  · exact .inl ⟨h1, h2.mono fun e w' ⟨v, he, h3⟩ => ⟨v, he, key v w' h3⟩⟩
  · exact .inr ⟨v, w', h1, key v w' h2⟩
theorem Reps.split {M : Nat → Prop} {R : Ref → Value → Prop} {w : World} : ∀ {a b : List AV} {vs : List Value}, Reps M R w (a ++ b) vs → ∃ us ws, vs = us ++ ws ∧ Reps M R w a us ∧ Reps M R w b ws
  | [], b, vs, h => ⟨[], vs, rfl, .nil, h⟩
  | x :: a, b, [], h => by simp [Reps] at h
  | x :: a, b, v :: vs, h => by
    obtain ⟨us, ws, rfl, h1, h2⟩ := Reps.split (a := a) (b := b) h.tail
    exact ⟨v :: us, ws, rfl, .cons h.head h1, h2⟩
end
end Go.Ab
namespace Go.Cod
open Go
abbrev Byt := List UInt8
abbrev Rd (α : Type) := Byt → Option (α × Byt)
structure Fits {α : Type} (rd : Rd α) (wr : α → Byt) (ok : α → Prop) : Prop where
  fwd : ∀ a t, ok a → rd (wr a ++ t) = some (a, t)
  bwd : ∀ b a t, rd b = some (a, t) → ok a ∧ b = wr a ++ t
def putN (n : Nat) : Byt := if h : n < 128 then [n.toUInt8] else (n % 128 + 128).toUInt8 :: putN (n / 128)
termination_by n
decreasing_by omega
theorem putN_lt {n : Nat} (h : n < 128) : putN n = [n.toUInt8] := by rw [putN]; simp [h]
theorem putN_ge {n : Nat} (h : ¬ n < 128) : putN n = (n % 128 + 128).toUInt8 :: putN (n / 128) := by rw [putN]; simp [h]
def getN : Nat → Rd Nat
  | _, [] => none
  | i, c :: t => if (i = 9 ∧ 1 < c.toNat) ∨ (0 < i ∧ c.toNat = 0) then none else
      if c.toNat < 128 then some (c.toNat, t) else (getN (i + 1) t).map fun p => (c.toNat - 128 + 128 * p.1, p.2)
theorem toNat_toUInt8 {n : Nat} (h : n < 256) : n.toUInt8.toNat = n := by
  simp only [Nat.toUInt8, UInt8.toNat_ofNat']; omega
theorem toUInt8_toNat (c : UInt8) : c.toNat.toUInt8 = c := by simp [Nat.toUInt8]
theorem getN_put : ∀ (n i : Nat) (t : Byt), i ≤ 9 → n < 2 ^ (64 - 7 * i) → (0 < i → 0 < n) → getN i (putN n ++ t) = some (n, t) := by
  intro n
  induction n using Nat.strongRecOn with
  | ind n ih =>
    intro i t hi hn h0
    by_cases h : n < 128
    · rw [putN_lt h]
      simp only [List.cons_append, List.nil_append, getN, toNat_toUInt8 (show n < 256 by omega)]
      rw [if_neg, if_pos h]
      rintro (⟨rfl, h1⟩ | ⟨h1, h2⟩)
      · simp at hn; omega
      · have := h0 h1; omega
    · rw [putN_ge h]
      have hi9 : i < 9 := by
        rcases Nat.lt_or_eq_of_le hi with h1 | rfl
        · exact h1
        · simp at hn; omega
      have hc : (n % 128 + 128).toUInt8.toNat = n % 128 + 128 := toNat_toUInt8 (by omega)
      simp only [List.cons_append, getN, hc]
      rw [if_neg (by omega), if_neg (by omega)]
      have e : 64 - 7 * i = 7 + (64 - 7 * (i + 1)) := by omega
      have hd : n / 128 < 2 ^ (64 - 7 * (i + 1)) := by
        rw [e, Nat.pow_add] at hn
        exact Nat.div_lt_of_lt_mul (by simpa using hn)
      rw [ih (n / 128) (by omega) (i + 1) t (by omega) hd (fun _ => by omega)]
      simp only [Option.map_some]
      congr 2
      omega
theorem getN_inv : ∀ (b : Byt) (i n : Nat) (t : Byt), i ≤ 9 → getN i b = some (n, t) → b = putN n ++ t ∧ n < 2 ^ (64 - 7 * i) ∧ (0 < i → 0 < n) := by
  intro b
  induction b with
  | nil => intro i n t _ h; simp [getN] at h
  | cons c b ih =>
    intro i n t hi h
    simp only [getN] at h
    split at h
    · cases h
    · rename_i hc
      have hlt : c.toNat < 256 := c.toNat_lt
      split at h
      · rename_i h1
        simp only [Option.some.injEq, Prod.mk.injEq] at h
        obtain ⟨rfl, rfl⟩ := h
        refine ⟨by rw [putN_lt h1, toUInt8_toNat]; rfl, ?_, by omega⟩
        rcases Nat.lt_or_eq_of_le hi with h2 | rfl
        · have : 7 ≤ 64 - 7 * i := by omega
          calc c.toNat < 2 ^ 7 := by omega
            _ ≤ 2 ^ (64 - 7 * i) := Nat.pow_le_pow_right (by decide) this
        · simp; omega
      · rename_i h1
        have hi9 : i < 9 := by
          rcases Nat.lt_or_eq_of_le hi with h2 | rfl
          · exact h2
          · omega
        cases hg : getN (i + 1) b with
        | none => simp [hg] at h
        | some p =>
          obtain ⟨m, u⟩ := p
          simp only [hg, Option.map_some, Option.some.injEq, Prod.mk.injEq] at h
          obtain ⟨rfl, rfl⟩ := h
          obtain ⟨e, hm, h0⟩ := ih (i + 1) m u (by omega) hg
          have hpos := h0 (by omega)
          have hx : ¬ (c.toNat - 128 + 128 * m < 128) := by omega
          refine ⟨?_, ?_, by omega⟩
          · rw [putN_ge hx, show (c.toNat - 128 + 128 * m) / 128 = m by omega, show (c.toNat - 128 + 128 * m) % 128 + 128 = c.toNat by omega, toUInt8_toNat, e]
            rfl
          · have e2 : 64 - 7 * i = 7 + (64 - 7 * (i + 1)) := by omega
            rw [e2, Nat.pow_add]
            have : c.toNat - 128 < 128 := by omega
            omega
theorem getN_len {i : Nat} {b : Byt} {n : Nat} {t : Byt} (h : getN i b = some (n, t)) : t.length < b.length := by
  induction b generalizing i n t with
  | nil => simp [getN] at h
  | cons c b ih =>
    simp only [getN] at h
    split at h
    · cases h
    · split at h
      · simp only [Option.some.injEq, Prod.mk.injEq] at h; rw [h.2]; simp
      · cases hg : getN (i + 1) b with
        | none => simp [hg] at h
        | some p =>
          obtain ⟨m, u⟩ := p
          simp only [hg, Option.map_some, Option.some.injEq, Prod.mk.injEq] at h
          have := ih hg
          rw [← h.2]; simp; omega
def numR (most : Nat) : Rd Nat := fun b => (getN 0 b).bind fun p => if p.1 ≤ most then some p else none
theorem num_fits {most : Nat} (hm : most < 2 ^ 64) : Fits (numR most) putN (fun n => n ≤ most) where
  fwd n t h := by
    have hn : n < 2 ^ (64 - 7 * 0) := by simp only [Nat.mul_zero, Nat.sub_zero]; omega
    simp only [numR, getN_put n 0 t (by omega) hn (by omega), Option.bind_some, h, if_true]
  bwd b n t h := by
    simp only [numR] at h
    cases hg : getN 0 b with
    | none => simp [hg] at h
    | some p =>
      obtain ⟨m, u⟩ := p
      simp only [hg, Option.bind_some] at h
      split at h
      · rename_i hle
        simp only [Option.some.injEq, Prod.mk.injEq] at h
        obtain ⟨rfl, rfl⟩ := h
        exact ⟨hle, (getN_inv b 0 m u (by omega) hg).1⟩
      · cases h
def textR (most : Nat) : Rd ByteArray := fun b => (numR most b).bind fun p => if p.1 ≤ p.2.length then some (⟨(p.2.take p.1).toArray⟩, p.2.drop p.1) else none
def txtB (s : ByteArray) : Byt := putN s.size ++ s.data.toList
theorem size_list (s : ByteArray) : s.data.toList.length = s.size := Array.length_toList
theorem text_fits {most : Nat} (hm : most < 2 ^ 64) : Fits (textR most) txtB (fun s => s.size ≤ most) where
  fwd s t h := by
    simp only [textR, txtB, List.append_assoc, (num_fits hm).fwd s.size _ h, Option.bind_some, List.length_append, size_list]
    rw [if_pos (by omega)]
    congr 2
    · rw [List.take_left' (size_list s)]
    · rw [List.drop_left' (size_list s)]
  bwd b s t h := by
    simp only [textR] at h
    cases hg : numR most b with
    | none => simp [hg] at h
    | some p =>
      obtain ⟨m, u⟩ := p
      simp only [hg, Option.bind_some] at h
      split at h
      · rename_i hle
        simp only [Option.some.injEq, Prod.mk.injEq] at h
        obtain ⟨rfl, rfl⟩ := h
        obtain ⟨h1, h2⟩ := (num_fits hm).bwd b m u hg
        have hs : (⟨(u.take m).toArray⟩ : ByteArray).size = m := by show (u.take m).toArray.size = m; rw [List.size_toArray, List.length_take]; omega
        refine ⟨by rw [hs]; exact h1, ?_⟩
        rw [h2, txtB, hs]
        simp
      · cases h
def byteR : Rd UInt8
  | [] => none
  | c :: t => some (c, t)
theorem byte_fits : Fits byteR (fun c => [c]) (fun _ => True) where
  fwd c t _ := rfl
  bwd b c t h := by
    cases b with
    | nil => cases h
    | cons d b => simp only [byteR, Option.some.injEq, Prod.mk.injEq] at h; obtain ⟨rfl, rfl⟩ := h; exact ⟨trivial, rfl⟩
section
variable {α β : Type} {rd : Rd α} {wr : α → Byt} {ok : α → Prop}
theorem Fits.rest (h : Fits rd wr ok) {b : Byt} {a : α} {t : Byt} (hr : rd b = some (a, t)) : t.length ≤ b.length ∧ b.drop (b.length - t.length) = t ∧ (wr a).length = b.length - t.length := by
  have := (h.bwd b a t hr).2
  subst this
  simp
def seqR (r1 : Rd α) (r2 : Rd β) : Rd (α × β) := fun b => (r1 b).bind fun p => (r2 p.2).map fun q => ((p.1, q.1), q.2)
theorem seq_fits {r1 : Rd α} {w1 : α → Byt} {ok1 : α → Prop} {r2 : Rd β} {w2 : β → Byt} {ok2 : β → Prop} (h1 : Fits r1 w1 ok1) (h2 : Fits r2 w2 ok2) :
    Fits (seqR r1 r2) (fun p => w1 p.1 ++ w2 p.2) (fun p => ok1 p.1 ∧ ok2 p.2) where
  fwd p t h := by simp only [seqR, List.append_assoc, h1.fwd _ _ h.1, Option.bind_some, h2.fwd _ _ h.2, Option.map_some]
  bwd b p t h := by
    simp only [seqR] at h
    cases ha : r1 b with
    | none => simp [ha] at h
    | some x =>
      obtain ⟨a, u⟩ := x
      simp only [ha, Option.bind_some] at h
      cases hb : r2 u with
      | none => simp [hb] at h
      | some y =>
        obtain ⟨c, v⟩ := y
        simp only [hb, Option.map_some, Option.some.injEq, Prod.mk.injEq] at h
        obtain ⟨rfl, rfl⟩ := h
        obtain ⟨o1, rfl⟩ := h1.bwd _ _ _ ha
        obtain ⟨o2, rfl⟩ := h2.bwd _ _ _ hb
        exact ⟨⟨o1, o2⟩, by rw [List.append_assoc]⟩
def onlyR (r : Rd α) (p : α → Bool) : Rd α := fun b => (r b).bind fun x => if p x.1 then some x else none
theorem only_fits (h : Fits rd wr ok) (p : α → Bool) : Fits (onlyR rd p) wr (fun a => ok a ∧ p a = true) where
  fwd a t ho := by simp only [onlyR, h.fwd a t ho.1, Option.bind_some, ho.2, if_true]
  bwd b a t hr := by
    simp only [onlyR] at hr
    cases ha : rd b with
    | none => simp [ha] at hr
    | some x =>
      simp only [ha, Option.bind_some] at hr
      split at hr
      · rename_i hp
        simp only [Option.some.injEq] at hr; subst hr
        exact ⟨⟨(h.bwd _ _ _ ha).1, hp⟩, (h.bwd _ _ _ ha).2⟩
      · cases hr
theorem Fits.weaken {ok' : α → Prop} (h : Fits rd wr ok) (he : ∀ a, ok a ↔ ok' a) : Fits rd wr ok' := ⟨fun a t ho => h.fwd a t ((he a).2 ho), fun b a t hr => ⟨(he a).1 (h.bwd b a t hr).1, (h.bwd b a t hr).2⟩⟩
def dressR (r : Rd α) (f : α → β) : Rd β := fun b => (r b).map fun p => (f p.1, p.2)
theorem dress_fits (h : Fits rd wr ok) {f : α → β} {g : β → α} {ok' : β → Prop} {wr' : β → Byt} (hf : ∀ a, ok a → ok' (f a) ∧ wr' (f a) = wr a) (hg : ∀ b, ok' b → ok (g b) ∧ f (g b) = b) : Fits (dressR rd f) wr' ok' where
  fwd b t hb := by
    obtain ⟨h1, h2⟩ := hg b hb
    have := (hf _ h1).2
    rw [h2] at this
    simp only [dressR, this, h.fwd _ _ h1, Option.map_some, h2]
  bwd b x t hr := by
    simp only [dressR] at hr
    cases ha : rd b with
    | none => simp [ha] at hr
    | some p =>
      simp only [ha, Option.map_some, Option.some.injEq, Prod.mk.injEq] at hr
      obtain ⟨rfl, rfl⟩ := hr
      obtain ⟨h1, h2⟩ := h.bwd _ _ _ ha
      exact ⟨(hf _ h1).1, by rw [(hf _ h1).2]; exact h2⟩
def manyR (r : Rd α) : Nat → Rd (List α)
  | 0 => fun b => some ([], b)
  | n + 1 => fun b => (r b).bind fun p => (manyR r n p.2).map fun q => (p.1 :: q.1, q.2)
def laidMany (wr : α → Byt) (l : List α) : Byt := l.flatMap wr
theorem many_fwd (h : Fits rd wr ok) : ∀ (l : List α) (t : Byt), (∀ a ∈ l, ok a) → manyR rd l.length (laidMany wr l ++ t) = some (l, t)
  | [], t, _ => rfl
  | a :: l, t, ho => by
    simp only [List.length_cons, manyR, laidMany, List.flatMap_cons, List.append_assoc, h.fwd a _ (ho a (by simp)), Option.bind_some]
    have := many_fwd h l t fun x hx => ho x (by simp [hx])
    simp only [laidMany] at this
    rw [this]; rfl
theorem many_bwd (h : Fits rd wr ok) : ∀ (n : Nat) (b : Byt) (l : List α) (t : Byt), manyR rd n b = some (l, t) → l.length = n ∧ (∀ a ∈ l, ok a) ∧ b = laidMany wr l ++ t
  | 0, b, l, t, hr => by
    simp only [manyR, Option.some.injEq, Prod.mk.injEq] at hr
    obtain ⟨rfl, rfl⟩ := hr
    exact ⟨rfl, by simp, rfl⟩
  | n + 1, b, l, t, hr => by
    simp only [manyR] at hr
    cases ha : rd b with
    | none => simp [ha] at hr
    | some p =>
      simp only [ha, Option.bind_some] at hr
      cases hm : manyR rd n p.2 with
      | none => simp [hm] at hr
      | some q =>
        simp only [hm, Option.map_some, Option.some.injEq, Prod.mk.injEq] at hr
        obtain ⟨rfl, rfl⟩ := hr
        obtain ⟨h1, h2⟩ := h.bwd b p.1 p.2 ha
        obtain ⟨h3, h4, h5⟩ := many_bwd h n p.2 q.1 q.2 hm
        refine ⟨by simp [h3], fun a hx => ?_, ?_⟩
        · rcases List.mem_cons.1 hx with rfl | hx
          · exact h1
          · exact h4 a hx
        · rw [h2, h5]; simp [laidMany, List.append_assoc]
def rowR (most : Nat) (r : Rd α) : Rd (List α) := fun b => (numR most b).bind fun p => manyR r p.1 p.2
def laidRow (wr : α → Byt) (l : List α) : Byt := putN l.length ++ laidMany wr l
theorem row_fits {most : Nat} (hm : most < 2 ^ 64) (h : Fits rd wr ok) : Fits (rowR most rd) (laidRow wr) (fun l => l.length ≤ most ∧ ∀ a ∈ l, ok a) where
  fwd l t ho := by simp only [rowR, laidRow, List.append_assoc, (num_fits hm).fwd _ _ ho.1, Option.bind_some, many_fwd h l t ho.2]
  bwd b l t hr := by
    simp only [rowR] at hr
    cases ha : numR most b with
    | none => simp [ha] at hr
    | some p =>
      simp only [ha, Option.bind_some] at hr
      obtain ⟨h1, h2⟩ := (num_fits hm).bwd b p.1 p.2 ha
      obtain ⟨h3, h4, h5⟩ := many_bwd h p.1 p.2 l t hr
      exact ⟨⟨by rw [h3]; exact h1, h4⟩, by rw [h2, h5, laidRow, h3, List.append_assoc]⟩
theorem Fits.cut (h : Fits rd wr ok) {a : α} (ho : ok a) {k : Nat} (hk : k < (wr a).length) : rd ((wr a).take k) = none := by
  cases hr : rd ((wr a).take k) with
  | none => rfl
  | some p =>
    obtain ⟨x, t⟩ := p
    obtain ⟨h1, h2⟩ := h.bwd _ _ _ hr
    have h3 : wr a = wr x ++ (t ++ (wr a).drop k) := by rw [← List.append_assoc, ← h2, List.take_append_drop]
    have h4 := h.fwd a [] ho
    rw [List.append_nil, h3, h.fwd x _ h1] at h4
    simp only [Option.some.injEq, Prod.mk.injEq, List.append_eq_nil_iff, List.drop_eq_nil_iff] at h4
    omega
theorem Fits.apart (h : Fits rd wr ok) {a b : α} (ha : ok a) (hb : ok b) (he : wr a = wr b) : a = b := by
  have h1 := h.fwd a [] ha
  rw [he, h.fwd b [] hb] at h1
  simpa using h1.symm
end
end Go.Cod
namespace Go.Proofs.Ytoadgajhkhejiaa
open Go Go.Ab Go.Cod
set_option maxRecDepth 100000
abbrev UN (n : Nat) : AV := .pl (.int .u64 n)
def bc (c : UInt8) : AV := .pl (.int .u8 c.toNat)
def byv (b : Byt) : List AV := b.map bc
theorem byv_len (b : Byt) : (byv b).length = b.length := List.length_map ..
theorem byv_nil : byv [] = [] := rfl
theorem byv_cons (c : UInt8) (b : Byt) : byv (c :: b) = bc c :: byv b := rfl
theorem byv_append (a b : Byt) : byv (a ++ b) = byv a ++ byv b := List.map_append ..
theorem byv_take (b : Byt) (k : Nat) : (byv b).take k = byv (b.take k) := by simp [byv]
theorem byv_drop (b : Byt) (k : Nat) : (byv b).drop k = byv (b.drop k) := by simp [byv]
theorem byv_all' (b : Byt) (f : AV → Bool) (h : ∀ c : UInt8, f (bc c) = true) : (byv b).all f = true := by
  simp only [byv, List.all_map, List.all_eq_true]
  intro c _
  exact h c
theorem byv_get (b : Byt) (i : Nat) (h : i < b.length) : (byv b)[i]? = some (bc b[i]) := by simp [byv, h]
theorem bel_bc (n : Nat) (c : UInt8) : Bel n (bc c) := .pl _
theorem bel_byv (n : Nat) (b : Byt) : Bel n (.sl 1 (byv b)) := .sl 1 _ fun i hi => by
  have : (byv b)[i] = bc (b[i]'(by rw [← byv_len]; exact hi)) := by simp [byv]
  rw [this]; exact bel_bc n _
theorem strA_byv (s : ByteArray) : (s.data.toList.map fun b => (AV.pl (.int .u8 b.toNat))) = byv s.data.toList := rfl
theorem byteL_byv : ∀ b : Byt, byteL (byv b) = some (b.map fun c => (c.toNat : Int))
  | [] => rfl
  | c :: b => by simp only [byv_cons, bc, byteL, byteL_byv b, Option.map_some, List.map_cons]
theorem textOf_byv (b : Byt) : textOf (b.map fun c => (c.toNat : Int)) = ⟨b.toArray⟩ := by
  unfold textOf
  congr 2
  rw [List.map_map]
  conv => rhs; rw [← List.map_id b]
  apply List.map_congr_left
  intro c _
  simp
theorem wrapUN {n : Nat} (h : n < 18446744073709551616) : IntKind.u64.wrap (n : Int) = (n : Int) := by
  simp only [IntKind.wrap, IntKind.bits, IntKind.signed]; simp; omega
theorem wrap8N {n : Nat} : IntKind.u8.wrap (n : Int) = ((n % 256 : Nat) : Int) := by
  simp only [IntKind.wrap, IntKind.bits, IntKind.signed]; simp
theorem or128 : ∀ m : Fin 256, IntKind.u8.wrap ((BitVec.ofInt 8 (m.val : Int) ||| BitVec.ofInt 8 128).toNat : Int) = ((m.val % 128 + 128 : Nat) : Int) := by decide +kernel
theorem bc_of {n : Nat} (h : n < 256) : AV.pl (.int .u8 n) = bc n.toUInt8 := by
  rw [bc, toNat_toUInt8 h]
theorem row1 (σ : St) (x : Ob) : (σ ++ [x])[σ.length]? = some x := by simp
theorem shr7 (n : Nat) : ((n : Int).fdiv (2 ^ min (7 : Int).toNat 64)) = ((n / 128 : Nat) : Int) := by
  have : (min (7 : Int).toNat 64) = 7 := rfl
  rw [this]
  rw [Int.fdiv_eq_ediv_of_nonneg _ (by decide)]
  rfl
theorem putN_len : ∀ (k n : Nat), n < 128 ^ (k + 1) → (putN n).length ≤ k + 1
  | 0, n, h => by rw [putN_lt (by simpa using h)]; simp
  | k + 1, n, h => by
    by_cases h1 : n < 128
    · rw [putN_lt h1]; simp
    · rw [putN_ge h1, List.length_cons]
      have := putN_len k (n / 128) (Nat.div_lt_of_lt_mul (by rw [Nat.pow_succ, Nat.mul_comm] at h; exact h))
      omega
theorem putN_len10 {n : Nat} (h : n < 18446744073709551616) : (putN n).length ≤ 10 := putN_len 9 n (Nat.lt_of_lt_of_le h (by decide))
theorem u8_or' (n : Nat) : IntKind.u8.wrap ((BitVec.ofInt 8 (((n % 256 : Nat) : Int)) ||| BitVec.ofInt 8 128).toNat : Int) = ((n % 128 + 128 : Nat) : Int) := by
  have := or128 ⟨n % 256, Nat.mod_lt _ (by decide)⟩
  simp only [show (n % 256) % 128 = n % 128 by omega] at this
  exact this
theorem u8_or (n : Nat) : IntKind.u8.wrap ((BitVec.ofInt IntKind.u8.bits (((n % 256 : Nat) : Int)) ||| BitVec.ofInt IntKind.u8.bits 128).toNat : Int) = ((n % 128 + 128 : Nat) : Int) := u8_or' n
theorem intle (a b : Nat) : decide ((a : Int) ≤ (b : Int)) = decide (a ≤ b) := by rw [Bool.eq_iff_iff]; simp
theorem Fini.ret3 {n m : Nat} {rvs : List RV} {r r' : AV} {σ σ' : St} {env : Env} (h : resA env σ rvs = some r') (e : r' = r) (e' : σ = σ') : Fini m rvs r σ' .ret env σ := by
  subst e; subst e'; exact Fini.ret h
section
variable (σ : St)
theorem put_ans (n : Nat) (hn : n < 18446744073709551616) : Ans Try.prog 84 [UN n] σ (.osl σ.length (putN n).length) (σ ++ [.row 1 (byv (putN n))]) := by
  have h10 := putN_len10 hn
  refine Ans.of_run t84 ?_
  simp -implicitDefEqProofs only [c84, r84, go_sem, List.reduceReplicate, Nat.reduceAdd, Nat.reduceSub, Nat.reduceLT, Nat.reduceLeDiff, Nat.reduceMul, Nat.reduceEqDiff, reduceCtorEq, Int.reduceLE, Int.reduceLT, Int.reduceEq, Int.reduceNe, Int.reduceBEq, Int.reduceBNe, Int.reduceAdd, Int.reduceSub]
  refine Go.Ab.L.intro (α := { p : Nat × Byt // p.1 < 18446744073709551616 ∧ p.2 ++ putN p.1 = putN n }) (fun p => p.1.1) (fun p => mkE 19 [(0, UN p.1.1), (3, .osl σ.length p.1.2.length)]) (fun p => σ ++ [.row 1 (byv p.1.2)]) ?_ ⟨(n, []), hn, rfl⟩ rfl rfl
  rintro ⟨⟨m, pre⟩, hm, hp⟩ J hJ
  have hl : pre.length + (putN m).length ≤ 10 := by rw [← List.length_append, hp]; exact h10
  have hx : ∀ c : Int, (byv pre ++ [AV.pl (.int .u8 c)]).length = pre.length + 1 := fun c => by simp [byv_len]
  have d0 := intle 128 m
  simp only [Int.cast_ofNat_Int] at d0
  have hw := wrapUN hm
  have hle : pre.length + 1 ≤ 2 ^ 32 := by omega
  by_cases h : m < 128
  · have d1 : decide ((128 : Int) ≤ m) = false := by simp; omega
    have d2 : IntKind.u8.wrap (m : Int) = m := by rw [wrap8N]; congr 1; omega
    simp -implicitDefEqProofs only [mkE, List.foldl_cons, List.foldl_nil, go_sem, List.reduceReplicate, Nat.reduceAdd, Nat.reduceSub, Nat.reduceLT, Nat.reduceLeDiff, Nat.reduceMul, Nat.reduceEqDiff, reduceCtorEq, Int.reduceLE, Int.reduceLT, Int.reduceEq, Int.reduceNe, Int.reduceBEq, Int.reduceBNe, Int.reduceAdd, Int.reduceSub, d1, row1, byv_len, List.length_singleton, hle, d2]
    refine Fini.ret3 (n := 0) rfl ?_ ?_
    · show AV.osl σ.length (pre.length + 1) = AV.osl σ.length (putN n).length
      rw [← hp, putN_lt h]; simp
    · rw [List.set_append_right _ _ (Nat.le_refl _)]
      simp only [Nat.sub_self, List.set_cons_zero]
      rw [← hp, byv_append, putN_lt h, bc_of (show m < 256 by omega)]
      rfl
  · have d1 : decide ((128 : Int) ≤ m) = true := by simp; omega
    simp -implicitDefEqProofs only [mkE, List.foldl_cons, List.foldl_nil, go_sem, List.reduceReplicate, Nat.reduceAdd, Nat.reduceSub, Nat.reduceLT, Nat.reduceLeDiff, Nat.reduceMul, Nat.reduceEqDiff, reduceCtorEq, Int.reduceLE, Int.reduceLT, Int.reduceEq, Int.reduceNe, Int.reduceBEq, Int.reduceBNe, Int.reduceAdd, Int.reduceSub, d1, row1, byv_len, List.length_singleton, hle, wrap8N (n := m), u8_or, u8_or', shr7, wrapUN (show m / 128 < 18446744073709551616 by omega)]
    rw [List.set_append_right _ _ (Nat.le_refl _)]
    simp only [Nat.sub_self, List.set_cons_zero]
    have hgo := hJ ⟨(m / 128, pre ++ [(m % 128 + 128).toUInt8]), by simp only; omega, by
      rw [← hp]; simp only [List.append_assoc, List.singleton_append]; rw [putN_ge h]⟩ (by simp only; omega)
    simp only [byv_append, List.length_append, List.length_singleton] at hgo
    have key : ∀ v : Int, v = ((m % 128 + 128 : Nat) : Int) → J (mkE 19 [(0, UN (m / 128)), (3, .osl σ.length (pre.length + 1))]) (σ ++ [Ob.row 1 (byv pre ++ [AV.pl (.int .u8 v)])]) := by
      rintro _ rfl
      rw [bc_of (show m % 128 + 128 < 256 by omega)]
      exact hgo
    exact key _ (u8_or' m)
theorem puttext_ans (s : ByteArray) (hs : s.size ≤ 4294967280) : Ans Try.prog 85 [Sx s] σ (.sl 1 (byv (txtB s))) σ := by
  have h10 := putN_len10 (n := s.size) (by omega)
  have hsz := size_list s
  have hw := wrapUN (n := s.size) (by omega)
  have hle : (putN s.size).length + s.size ≤ 2 ^ 32 := by omega
  refine Ans.of_run' t85 (fun hbel _ => ?_)
  simp -implicitDefEqProofs only [c85, r85, go_sem, List.reduceReplicate, Nat.reduceAdd, Nat.reduceSub, Nat.reduceLT, Nat.reduceLeDiff, Nat.reduceMul, Nat.reduceEqDiff, reduceCtorEq, Int.reduceLE, Int.reduceLT, Int.reduceEq, Int.reduceNe, Int.reduceBEq, Int.reduceBNe, Int.reduceAdd, Int.reduceSub, hw]
  refine CO.intro (put_ans σ s.size (by omega)) ?_
  simp -implicitDefEqProofs only [go_sem, List.reduceReplicate, Nat.reduceAdd, Nat.reduceSub, Nat.reduceLT, Nat.reduceLeDiff, Nat.reduceMul, Nat.reduceEqDiff, reduceCtorEq, Int.reduceLE, Int.reduceLT, Int.reduceEq, Int.reduceNe, Int.reduceBEq, Int.reduceBNe, Int.reduceAdd, Int.reduceSub, strA_byv, row1, byv_len, hsz, hle]
  simp -implicitDefEqProofs only [go_sem, List.reduceReplicate, Nat.reduceAdd, Nat.reduceSub, Nat.reduceLT, Nat.reduceLeDiff, Nat.reduceMul, Nat.reduceEqDiff, reduceCtorEq, Int.reduceLE, Int.reduceLT, Int.reduceEq, Int.reduceNe, Int.reduceBEq, Int.reduceBNe, Int.reduceAdd, Int.reduceSub, g0, s0, byv_len, hsz, ← byv_append, List.length_append]
  exact Fini.trim2 (σ' := σ) (by show _ = some (AV.sl 1 (byv (txtB s))); rfl) rfl (Nat.le_refl _) (bel_byv _ _) hbel
end
end Go.Proofs.Ytoadgajhkhejiaa
