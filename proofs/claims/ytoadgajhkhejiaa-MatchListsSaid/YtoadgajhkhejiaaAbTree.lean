/- The evaluator a third time, its frame laid as a tree: each look takes few steps. It answers what the first one answers. No condition. -/
import Derived.Test.YtoadgajhkhejiaaAbFast
set_option linter.unusedSimpArgs false
set_option linter.unusedVariables false
namespace Go.Ab
open Go
inductive ET where
  | lf (v : AV)
  | nd (l r : ET)
abbrev OutT := Option (ET × St)
/- A value brought to its form: each way by itself. -/
noncomputable def frcUT : Value → (AV → OutT) → OutT := fun v => Value.rec (motive_1 := fun _ => (AV → OutT) → OutT) (motive_2 := fun _ => Unit) (motive_3 := fun _ => Unit)
  (fun b => Bool.rec (motive := fun _ => (AV → OutT) → OutT) (fun k => k (.pl (.bool false))) (fun k => k (.pl (.bool true))) b)
  (fun d n => Int.rec (motive := fun _ => (AV → OutT) → OutT) (fun m k => Nat.rec (motive := fun _ => OutT) (k (.pl (.int d (.ofNat 0)))) (fun p _ => k (.pl (.int d (.ofNat (p + 1))))) m)
    (fun m k => Nat.rec (motive := fun _ => OutT) (k (.pl (.int d (.negSucc 0)))) (fun p _ => k (.pl (.int d (.negSucc (p + 1))))) m) n)
  (fun d n k => Nat.rec (motive := fun _ => OutT) (k (.pl (.float d 0))) (fun p _ => k (.pl (.float d (p + 1)))) n)
  (fun d a b k => k (.pl (.complex d a b)))
  (fun s k => frcR s.data.toList fun l => k (.pl (.string ⟨⟨l⟩⟩)))
  (fun a k => k (.pl (.pointer a)))
  (fun a n c k => k (.pl (.slice a n c)))
  (fun r k => k (.pl (.map r)))
  (fun r k => k (.pl (.chan r)))
  (fun f a b _ _ k => k (.pl (.func f a b)))
  (fun k => k (.pl .nilFunc))
  (fun t v _ k => k (.pl (.iface t v)))
  (fun k => k (.pl .nilIface))
  (fun cs _ k => k (.pl (.agg cs)))
  (fun cs _ k => k (.pl (.tuple cs)))
  (fun _ _ => ()) () (fun _ _ _ _ => ()) v
theorem frcUT_eq (v : Value) (k : AV → OutT) : frcUT v k = k (.pl v) := by
  cases v with
  | bool b => cases b <;> rfl
  | int d n => cases n with
    | ofNat m => cases m <;> rfl
    | negSucc m => cases m <;> rfl
  | float d n => cases n <;> rfl
  | string s => exact frcR_eq _ _
  | _ => rfl
noncomputable def frcWT (v : AV) (k : AV → OutT) : OutT :=
  AV.casesOn (motive_1 := fun _ => (AV → OutT) → OutT) v (fun k => k .any) (fun u => frcUT u) (fun k => k .nils) (fun n xs k => frcR xs fun xs => k (.sl n xs)) (fun xs k => frcR xs fun xs => k (.rp xs))
    (fun a b k => frcN a fun a => frcN b fun b => k (.ptr a b)) (fun a b k => frcN a fun a => frcN b fun b => k (.osl a b)) (fun a b c d k => frcN a fun a => frcN b fun b => frcN c fun c => frcN d fun d => k (.ep a b c d))
    (fun a b c k => frcN a fun a => frcN b fun b => frcN c fun c => k (.psl a b c)) (fun k => k .zsl) (fun a b c d k => frcN a fun a => frcN b fun b => frcN c fun c => frcN d fun d => k (.win a b c d)) (fun xs k => frcR xs fun xs => k (.agg xs)) (fun xs k => frcR xs fun xs => k (.tup xs)) (fun f xs ys k => k (.fn f xs ys)) k
theorem frcWT_eq (v : AV) (k : AV → OutT) : frcWT v k = k v := by
  cases v with
  | pl u => exact frcUT_eq u k
  | sl n xs => exact frcR_eq _ _
  | rp xs => exact frcR_eq _ _
  | agg xs => exact frcR_eq _ _
  | tup xs => exact frcR_eq _ _
  | ptr a b => show (frcN a fun a => frcN b fun b => k (.ptr a b)) = _; simp
  | osl a b => show (frcN a fun a => frcN b fun b => k (.osl a b)) = _; simp
  | ep a b c d => show (frcN a fun a => frcN b fun b => frcN c fun c => frcN d fun d => k (.ep a b c d)) = _; simp
  | psl a b c => show (frcN a fun a => frcN b fun b => frcN c fun c => k (.psl a b c)) = _; simp
  | win a b c d => show (frcN a fun a => frcN b fun b => frcN c fun c => frcN d fun d => k (.win a b c d)) = _; simp
  | _ => rfl
noncomputable def frcORT (o : AOp) (σ : St) (k : St → OutT) : OutT :=
  AOp.rec (motive := fun _ => St → (St → OutT) → OutT) (fun ao σ k => Bool.rec (motive := fun _ => OutT) (frcT σ k) (k σ) (stillT ao)) (fun _ _ σ k => frcR σ k) (fun _ _ _ σ k => k σ) (fun _ σ k => k σ) (fun _ _ _ _ σ k => k σ) o σ k
theorem frcORT_eq (o : AOp) (σ : St) (k : St → OutT) : frcORT o σ k = k σ := by
  cases o with
  | prim ao =>
    show Bool.rec (motive := fun _ => OutT) (frcT σ k) (k σ) (stillT ao) = _
    cases stillT ao
    · exact frcT_eq _ _
    · rfl
  | call f args => exact frcR_eq _ _
  | _ => rfl
noncomputable def ET.get (t : ET) : Nat → AV :=
  ET.rec (motive := fun _ => Nat → AV) (fun v _ => v) (fun _ _ gl gr i => Bool.rec (motive := fun _ => AV) (gl (i / 2)) (gr (i / 2)) (Nat.beq (i % 2) 1)) t
def ET.upd (v : AV) : ET → Nat → ET
  | .lf _, _ => .lf v
  | .nd l r, i => if i % 2 = 1 then .nd l (upd v r (i / 2)) else .nd (upd v l (i / 2)) r
noncomputable def ET.updK {α : Type} (v : AV) (t : ET) : Nat → (ET → α) → α :=
  ET.rec (motive := fun _ => Nat → (ET → α) → α) (fun _ _ k => k (.lf v))
    (fun l r ul ur i k => Bool.rec (motive := fun _ => α) (ul (i / 2) fun l' => k (.nd l' r)) (ur (i / 2) fun r' => k (.nd l r')) (Nat.beq (i % 2) 1)) t
theorem ET.updK_eq {α : Type} (v : AV) : ∀ (t : ET) (i : Nat) (k : ET → α), ET.updK v t i k = k (t.upd v i)
  | .lf _, _, _ => rfl
  | .nd l r, i, k => by
    have e : ET.updK v (.nd l r) i k = Bool.rec (motive := fun _ => α) (ET.updK v l (i / 2) fun l' => k (.nd l' r)) (ET.updK v r (i / 2) fun r' => k (.nd l r')) (Nat.beq (i % 2) 1) := rfl
    rw [e, ET.updK_eq v l, ET.updK_eq v r]
    cases hb : Nat.beq (i % 2) 1 with
    | true => simp only [ET.upd, if_pos (Nat.eq_of_beq_eq_true hb)]
    | false => simp only [ET.upd, if_neg (Nat.ne_of_beq_eq_false hb)]
def Perf : Nat → ET → Prop
  | 0, t => ∃ v, t = .lf v
  | d + 1, t => ∃ l r, t = .nd l r ∧ Perf d l ∧ Perf d r
theorem Perf.upd (v : AV) : ∀ {d : Nat} {t : ET}, Perf d t → ∀ i, Perf d (t.upd v i)
  | 0, _, ⟨_, rfl⟩, _ => ⟨v, rfl⟩
  | d + 1, _, ⟨l, r, rfl, hl, hr⟩, i => by
    simp only [ET.upd]
    split
    · exact ⟨_, _, rfl, hl, hr.upd v _⟩
    · exact ⟨_, _, rfl, hl.upd v _, hr⟩
theorem ET.get_nd (l r : ET) (i : Nat) : (ET.nd l r).get i = if i % 2 = 1 then r.get (i / 2) else l.get (i / 2) := by
  have e : (ET.nd l r).get i = Bool.rec (motive := fun _ => AV) (l.get (i / 2)) (r.get (i / 2)) (Nat.beq (i % 2) 1) := rfl
  rw [e]
  cases hb : Nat.beq (i % 2) 1 with
  | true => rw [if_pos (Nat.eq_of_beq_eq_true hb)]
  | false => rw [if_neg (Nat.ne_of_beq_eq_false hb)]
theorem ET.get_upd (v : AV) : ∀ {d : Nat} {t : ET}, Perf d t → ∀ i j, i < 2 ^ d → j < 2 ^ d → (t.upd v i).get j = if i = j then v else t.get j
  | 0, _, ⟨_, rfl⟩, i, j, hi, hj => by
    have : i = j := by simp at hi hj; omega
    rw [if_pos this]; rfl
  | d + 1, _, ⟨l, r, rfl, hl, hr⟩, i, j, hi, hj => by
    have hi2 : i / 2 < 2 ^ d := by rw [Nat.pow_succ] at hi; omega
    have hj2 : j / 2 < 2 ^ d := by rw [Nat.pow_succ] at hj; omega
    simp only [ET.upd]
    by_cases h1 : i % 2 = 1
    · rw [if_pos h1, ET.get_nd, ET.get_nd]
      by_cases h2 : j % 2 = 1
      · rw [if_pos h2, if_pos h2, ET.get_upd v hr _ _ hi2 hj2]
        by_cases h3 : i = j
        · rw [if_pos h3, if_pos (by omega)]
        · rw [if_neg h3, if_neg (by omega)]
      · rw [if_neg h2, if_neg h2, if_neg (by omega)]
    · rw [if_neg h1, ET.get_nd, ET.get_nd]
      by_cases h2 : j % 2 = 1
      · rw [if_pos h2, if_pos h2, if_neg (by omega)]
      · rw [if_neg h2, if_neg h2, ET.get_upd v hl _ _ hi2 hj2]
        by_cases h3 : i = j
        · rw [if_pos h3, if_pos (by omega)]
        · rw [if_neg h3, if_neg (by omega)]
noncomputable def toL (n : Nat) (t : ET) : Env := (List.range n).map t.get
theorem toL_length (n : Nat) (t : ET) : (toL n t).length = n := by simp [toL]
theorem toL_get (n : Nat) (t : ET) (i : Nat) : tmpA (toL n t) i = if i < n then t.get i else .any := by
  unfold tmpA toL
  by_cases h : i < n
  · simp [h, List.getD]
  · simp [h, List.getD, Nat.not_lt.1 h]
theorem toL_upd {d n : Nat} {t : ET} (hp : Perf d t) (hn : n ≤ 2 ^ d) (v : AV) (i : Nat) (hi : i < n) : toL n (t.upd v i) = (toL n t).set i v := by
  apply List.ext_getElem
  · simp [toL]
  · intro j h1 h2
    have hj : j < n := by simpa [toL] using h1
    simp only [toL, List.getElem_map, List.getElem_range, List.getElem_set]
    exact ET.get_upd v hp i j (by omega) (by omega)
noncomputable def fevT (n : Nat) (t : ET) (x : Operand) : AV :=
  match x with
  | .tmp i => Bool.rec (motive := fun _ => AV) .any (t.get i) (Nat.ble (i + 1) n)
  | .const v => cval v
  | .global _ => .any
  | .func f => .fn f [] []
theorem getT_eq (n : Nat) (t : ET) (i : Nat) : Bool.rec (motive := fun _ => AV) .any (t.get i) (Nat.ble (i + 1) n) = tmpA (toL n t) i := by
  rw [toL_get]
  cases hb : Nat.ble (i + 1) n with
  | true => rw [if_pos (show i < n from Nat.le_of_ble_eq_true hb)]
  | false =>
    rw [if_neg]
    intro h
    rw [Nat.ble_eq_true_of_le (show i + 1 ≤ n from h)] at hb
    cases hb
theorem fevT_eq (n : Nat) (t : ET) : fevT n t = aev (toL n t) := by
  funext x
  cases x <;> simp only [fevT, aev]
  exact getT_eq n t _
noncomputable def putT {α : Type} (n : Nat) (t : ET) (d : Option Tmp) (r : AV) (k : ET → α) : α :=
  match d with
  | some i => Bool.rec (motive := fun _ => α) (k t) (ET.updK r t i k) (Nat.ble (i + 1) n)
  | none => k t
def putD (n : Nat) (t : ET) (d : Option Tmp) (r : AV) : ET :=
  match d with
  | some i => if i + 1 ≤ n then t.upd r i else t
  | none => t
theorem putT_eq {α : Type} (n : Nat) (t : ET) (d : Option Tmp) (r : AV) (k : ET → α) : putT n t d r k = k (putD n t d r) := by
  cases d with
  | none => rfl
  | some i =>
    show Bool.rec (motive := fun _ => α) (k t) (ET.updK r t i k) (Nat.ble (i + 1) n) = k (if i + 1 ≤ n then t.upd r i else t)
    cases hb : Nat.ble (i + 1) n with
    | true => rw [if_pos (Nat.le_of_ble_eq_true hb)]; exact ET.updK_eq _ _ _ _
    | false =>
      rw [if_neg]
      intro h
      rw [Nat.ble_eq_true_of_le h] at hb
      cases hb
theorem putD_ok {d n : Nat} {t : ET} (hp : Perf d t) (hn : n ≤ 2 ^ d) (x : Option Tmp) (r : AV) : Perf d (putD n t x r) ∧ toL n (putD n t x r) = putA (toL n t) x r := by
  cases x with
  | none => exact ⟨hp, rfl⟩
  | some i =>
    simp only [putD, putA]
    by_cases hi : i + 1 ≤ n
    · rw [if_pos hi]
      exact ⟨hp.upd r i, toL_upd hp hn r i hi⟩
    · rw [if_neg hi]
      refine ⟨hp, ?_⟩
      rw [List.set_eq_of_length_le]
      rw [toL_length]; exact Nat.le_of_not_lt hi
noncomputable def wantT (n : Nat) (t : ET) (g : Option (Tmp × Bool)) : Option Bool :=
  match g with
  | none => some true
  | some (i, want) => match (Bool.rec (motive := fun _ => AV) .any (t.get i) (Nat.ble (i + 1) n) : AV) with
    | .pl (.bool b) => some (b == want)
    | .tup [] => some false
    | _ => none
theorem wantT_eq (n : Nat) (t : ET) (g : Option (Tmp × Bool)) : wantT n t g = wantA (toL n t) g := by
  unfold wantT wantA
  cases g with
  | none => rfl
  | some p => obtain ⟨i, w⟩ := p; simp only [getT_eq]; rfl
noncomputable def evOpT (run : Run) (n : Nat) (t : ET) (σ : St) (o : AOp) : Option (AV × St) :=
  match o with
  | .prim ao => aopT ao (fevT n t) σ
  | .call f args => match fevT n t f with
    | .fn g fs cs => run g (fs ++ args.map (fevT n t) ++ cs) σ
    | _ => none
  | .fresh m d x => if d < n ∧ (fevT n t x).okc ∧ (fevT n t x).cells.length = m then some (.rp (fevT n t x).cells, σ) else none
  | .flo _ | .adopt _ _ _ _ => none
theorem aopT_eq (ρ : Operand → AV) (σ : St) (ao : AO) : aopT ao ρ σ = aop ρ σ ao := aopF_eq ρ σ ao
theorem evOpT_eq (run : Run) (n : Nat) (t : ET) (σ : St) (o : AOp) : evOpT run n t σ o = evOp run (toL n t) σ o := by
  unfold evOpT evOp
  simp only [fevT_eq, aopT_eq, toL_length]; rfl
noncomputable def evOpsT (run : Run) (n : Nat) (l : List AOper) : ET → St → OutT :=
  List.rec (motive := fun _ => ET → St → OutT) (fun t σ => some (t, σ))
    (fun o _ ih t σ => match wantT n t o.guard with
      | some true => match evOpT run n t σ o.op with
        | some (r, σ') => frcWT r fun r => putT n t o.dst r fun t' => frcORT o.op σ' fun σ' => ih t' σ'
        | none => none
      | some false => putT n t o.dst (.tup []) fun t' => ih t' σ
      | none => none) l
theorem evOpsT_ok (run : Run) {d n : Nat} (hn : n ≤ 2 ^ d) : ∀ (l : List AOper) (t : ET) (σ : St) (t' : ET) (σ' : St), Perf d t → evOpsT run n l t σ = some (t', σ') → Perf d t' ∧ evOps run l (toL n t) σ = some (toL n t', σ')
  | [], t, σ, t', σ', hp, h => by
    have e : evOpsT run n [] t σ = some (t, σ) := rfl
    rw [e] at h
    simp only [Option.some.injEq, Prod.mk.injEq] at h
    obtain ⟨rfl, rfl⟩ := h
    exact ⟨hp, rfl⟩
  | o :: os, t, σ, t', σ', hp, h => by
    have e : evOpsT run n (o :: os) t σ = (match wantT n t o.guard with
      | some true => match evOpT run n t σ o.op with
        | some (r, σ') => frcWT r fun r => putT n t o.dst r fun t' => frcORT o.op σ' fun σ' => evOpsT run n os t' σ'
        | none => none
      | some false => putT n t o.dst (.tup []) fun t' => evOpsT run n os t' σ
      | none => none) := rfl
    rw [e] at h
    simp only [wantT_eq, evOpT_eq, frcWT_eq, putT_eq, frcORT_eq] at h
    simp only [evOps, frcV_eq, frcL_eq, frcO_eq]
    split at h
    · rename_i hw
      simp only [hw]
      split at h
      · rename_i r s hr
        simp only [hr]
        obtain ⟨h1, h2⟩ := putD_ok hp hn o.dst r
        rw [← h2]
        exact evOpsT_ok run hn os _ _ _ _ h1 h
      · cases h
    · rename_i hw
      simp only [hw]
      obtain ⟨h1, h2⟩ := putD_ok hp hn o.dst (.tup [])
      rw [← h2]
      exact evOpsT_ok run hn os _ _ _ _ h1 h
    · cases h
noncomputable def stayBT (n : Nat) (t : ET) (ao : AO) (r : AV) (s : St) : Bool :=
  match aopT ao (fevT n t) s with
  | some (r', _) => r.same r'
  | none => false
theorem stayBT_eq (n : Nat) (t : ET) (ao : AO) (r : AV) : stayBT n t ao r = stayB (toL n t) ao r := by
  funext s; unfold stayBT stayB; rw [fevT_eq, aopT_eq]; rfl
noncomputable def stayCT (run : Run) (n : Nat) (t : ET) (o : AOp) (r : AV) (s : St) : Bool :=
  match evOpT run n t s o with
  | some (r', s') => r.same r' && sameSt s s'
  | none => false
theorem stayCT_eq (run : Run) (n : Nat) (t : ET) (o : AOp) (r : AV) : stayCT run n t o r = stayC run (toL n t) o r := by
  funext s; unfold stayCT stayC; rw [evOpT_eq]; rfl
noncomputable def evDsT (run : Run) (n : Nat) (l : List DOper) : ET → List St → St → (List St → Bool) → OutT :=
  List.rec (motive := fun _ => ET → List St → St → (List St → Bool) → OutT) (fun t S σ ob => if ob S then some (t, σ) else none)
    (fun d _ ih t S σ ob => match wantT n t d.o.guard with
    | some true => if d.eff then (match evOpT run n t σ d.o.op with
        | some (r, σ') => frcWT r fun r => putT n t d.o.dst r fun t' => frcORT d.o.op σ' fun σ' => ih t' (S ++ [σ']) σ' ob
        | none => none)
      else (match d.o.op with
        | .prim ao => match aopT ao (fevT n t) σ with
          | some (r, _) => frcWT r fun r => putT n t d.o.dst r fun t' => if ao.free then ih t' S σ ob
            else if ao.still then ih t' S σ (fun T => ob T && ((T.take (d.hi + 1)).drop d.lo).all (stayBT n t ao r))
            else none
          | none => none
        | .call f args => match evOpT run n t σ (.call f args) with
          | some (r, σ') => frcWT r fun r => putT n t d.o.dst r fun t' => if sameSt σ σ' then
              ih t' S σ (fun T => ob T && ((T.take (d.hi + 1)).drop d.lo).all (stayCT run n t (.call f args) r)) else none
          | none => none
        | _ => none)
    | some false => putT n t d.o.dst (.tup []) fun t' => ih t' (if d.eff then S ++ [σ] else S) σ ob
    | none => none) l
theorem evDsT_ok (run : Run) {dd n : Nat} (hn : n ≤ 2 ^ dd) : ∀ (l : List DOper) (t : ET) (S : List St) (σ : St) (ob : List St → Bool) (t' : ET) (σ' : St), Perf dd t → evDsT run n l t S σ ob = some (t', σ') →
    Perf dd t' ∧ evDs run l (toL n t) S σ ob = some (toL n t', σ')
  | [], t, S, σ, ob, t', σ', hp, h => by
    have e : evDsT run n [] t S σ ob = if ob S then some (t, σ) else none := rfl
    rw [e] at h
    split at h
    · rename_i hb
      simp only [Option.some.injEq, Prod.mk.injEq] at h
      obtain ⟨rfl, rfl⟩ := h
      exact ⟨hp, by simp only [evDs, hb, if_true]⟩
    · cases h
  | d :: ds, t, S, σ, ob, t', σ', hp, h => by
    have e : evDsT run n (d :: ds) t S σ ob = (match wantT n t d.o.guard with
    | some true => if d.eff then (match evOpT run n t σ d.o.op with
        | some (r, σ') => frcWT r fun r => putT n t d.o.dst r fun t' => frcORT d.o.op σ' fun σ' => evDsT run n ds t' (S ++ [σ']) σ' ob
        | none => none)
      else (match d.o.op with
        | .prim ao => match aopT ao (fevT n t) σ with
          | some (r, _) => frcWT r fun r => putT n t d.o.dst r fun t' => if ao.free then evDsT run n ds t' S σ ob
            else if ao.still then evDsT run n ds t' S σ (fun T => ob T && ((T.take (d.hi + 1)).drop d.lo).all (stayBT n t ao r))
            else none
          | none => none
        | .call f args => match evOpT run n t σ (.call f args) with
          | some (r, σ') => frcWT r fun r => putT n t d.o.dst r fun t' => if sameSt σ σ' then
              evDsT run n ds t' S σ (fun T => ob T && ((T.take (d.hi + 1)).drop d.lo).all (stayCT run n t (.call f args) r)) else none
          | none => none
        | _ => none)
    | some false => putT n t d.o.dst (.tup []) fun t' => evDsT run n ds t' (if d.eff then S ++ [σ] else S) σ ob
    | none => none) := rfl
    rw [e] at h
    simp only [wantT_eq, evOpT_eq, aopT_eq, fevT_eq, stayBT_eq, stayCT_eq, frcWT_eq, putT_eq, frcORT_eq] at h
    simp only [evDs, frcV_eq, frcL_eq, frcO_eq]
    split at h
    · rename_i hw
      simp only [hw]
      split at h
      · rename_i he
        simp only [he, if_true]
        split at h
        · rename_i r s hr
          simp only [hr]
          obtain ⟨h1, h2⟩ := putD_ok hp hn d.o.dst r
          rw [← h2]
          exact evDsT_ok run hn ds _ _ _ _ _ _ h1 h
        · cases h
      · rename_i he
        simp only [he, Bool.false_eq_true, if_false]
        split at h
        · rename_i ao hao
          simp only [hao]
          split at h
          · rename_i r s hr
            simp only [hr]
            obtain ⟨h1, h2⟩ := putD_ok hp hn d.o.dst r
            rw [← h2]
            split at h
            · rename_i hf
              simp only [hf, if_true]
              exact evDsT_ok run hn ds _ _ _ _ _ _ h1 h
            · rename_i hf
              simp only [hf, Bool.false_eq_true, if_false]
              split at h
              · rename_i hs
                simp only [hs, if_true]
                exact evDsT_ok run hn ds _ _ _ _ _ _ h1 h
              · cases h
          · cases h
        · rename_i f args hao
          simp only [hao]
          split at h
          · rename_i r s hr
            simp only [hr]
            obtain ⟨h1, h2⟩ := putD_ok hp hn d.o.dst r
            rw [← h2]
            split at h
            · rename_i hf
              simp only [hf, if_true]
              exact evDsT_ok run hn ds _ _ _ _ _ _ h1 h
            · cases h
          · cases h
        · cases h
    · rename_i hw
      simp only [hw]
      obtain ⟨h1, h2⟩ := putD_ok hp hn d.o.dst (.tup [])
      rw [← h2]
      exact evDsT_ok run hn ds _ _ _ _ _ _ h1 h
    · cases h
noncomputable def clrT {α : Type} (n : Nat) (ts : List Tmp) : ET → (ET → α) → α :=
  List.rec (motive := fun _ => ET → (ET → α) → α) (fun t k => k t) (fun i _ ih t k => putT n t (some i) .any fun t' => ih t' k) ts
def clrD (n : Nat) : List Tmp → ET → ET
  | [], t => t
  | i :: ts, t => clrD n ts (putD n t (some i) .any)
theorem clrT_eq {α : Type} (n : Nat) : ∀ (ts : List Tmp) (t : ET) (k : ET → α), clrT n ts t k = k (clrD n ts t)
  | [], _, _ => rfl
  | i :: ts, t, k => by
    have e : clrT n (i :: ts) t k = putT n t (some i) .any fun t' => clrT n ts t' k := rfl
    rw [e, putT_eq, clrT_eq n ts]; rfl
theorem clrD_ok {d n : Nat} (hn : n ≤ 2 ^ d) : ∀ (ts : List Tmp) {t : ET}, Perf d t → Perf d (clrD n ts t) ∧ toL n (clrD n ts t) = clearA (toL n t) ts
  | [], t, hp => ⟨hp, rfl⟩
  | i :: ts, t, hp => by
    obtain ⟨h1, h2⟩ := putD_ok hp hn (some i) .any
    obtain ⟨h3, h4⟩ := clrD_ok hn ts h1
    refine ⟨h3, ?_⟩
    rw [clrD, h4, h2]; rfl
noncomputable def fullT (v : AV) (d : Nat) : ET := Nat.rec (motive := fun _ => ET) (.lf v) (fun _ t => .nd t t) d
theorem fullT_perf (v : AV) : ∀ d, Perf d (fullT v d)
  | 0 => ⟨v, rfl⟩
  | d + 1 => ⟨_, _, rfl, fullT_perf v d, fullT_perf v d⟩
theorem fullT_get (v : AV) : ∀ d i, (fullT v d).get i = v
  | 0, _ => rfl
  | d + 1, i => by
    have e : fullT v (d + 1) = .nd (fullT v d) (fullT v d) := rfl
    rw [e, ET.get_nd]
    split <;> exact fullT_get v d _
noncomputable def layT {α : Type} (n : Nat) (l : List AV) : Nat → ET → (ET → α) → α :=
  List.rec (motive := fun _ => Nat → ET → (ET → α) → α) (fun _ t k => k t) (fun x _ ih i t k => putT n t (some i) x fun t' => ih (i + 1) t' k) l
def layD (n : Nat) : List AV → Nat → ET → ET
  | [], _, t => t
  | x :: xs, i, t => layD n xs (i + 1) (putD n t (some i) x)
theorem layT_eq {α : Type} (n : Nat) : ∀ (l : List AV) (i : Nat) (t : ET) (k : ET → α), layT n l i t k = k (layD n l i t)
  | [], _, _, _ => rfl
  | x :: xs, i, t, k => by
    have e : layT n (x :: xs) i t k = putT n t (some i) x fun t' => layT n xs (i + 1) t' k := rfl
    rw [e, putT_eq, layT_eq n xs]; rfl
theorem layD_ok {d n : Nat} (hn : n ≤ 2 ^ d) : ∀ (l : List AV) (i : Nat) (t : ET), Perf d t → i + l.length ≤ n → Perf d (layD n l i t) ∧ toL n (layD n l i t) = (toL n t).take i ++ l ++ (toL n t).drop (i + l.length)
  | [], i, t, hp, hl => ⟨hp, by simp [layD]⟩
  | x :: xs, i, t, hp, hl => by
    simp only [List.length_cons] at hl
    obtain ⟨h1, h2⟩ := putD_ok hp hn (some i) x
    obtain ⟨h3, h4⟩ := layD_ok hn xs (i + 1) _ h1 (by omega)
    refine ⟨h3, ?_⟩
    rw [layD, h4, h2]
    have hlen := toL_length n t
    simp only [putA, List.length_cons]
    rw [List.take_set, List.drop_set_of_lt (by omega)]
    have e1 : ((toL n t).take (i + 1)).set i x = (toL n t).take i ++ [x] := by
      apply List.ext_getElem
      · simp; omega
      · intro j h5 h6
        simp only [List.length_set, List.length_take] at h5
        rw [List.getElem_set]
        by_cases hij : i = j
        · subst hij
          rw [if_pos rfl, List.getElem_append_right (by rw [List.length_take]; exact Nat.min_le_left _ _)]
          simp
        · rw [if_neg hij, List.getElem_append_left (by simp; omega)]
          simp
    rw [e1]
    rw [show i + 1 + xs.length = i + (xs.length + 1) by omega]
    simp only [List.append_assoc, List.cons_append, List.nil_append]
noncomputable def evGT (n0 n d : Nat) (g : Ghost) (t : ET) (σ : St) : Option (ET × St) :=
  match evG n0 g (toL n t) σ with
  | some (env', σ') => Bool.rec (motive := fun _ => Option (ET × St)) none (layT n env' 0 (fullT .any d) fun t' => frcT σ' fun σ' => some (t', σ')) (Nat.beq env'.length n)
  | none => none
theorem evGT_ok {n0 n d : Nat} (hn : n ≤ 2 ^ d) {g : Ghost} {t t' : ET} {σ σ' : St} (h : evGT n0 n d g t σ = some (t', σ')) : Perf d t' ∧ evG n0 g (toL n t) σ = some (toL n t', σ') := by
  unfold evGT at h
  split at h
  · rename_i env' s he
    cases hb : Nat.beq env'.length n with
    | false => rw [hb] at h; cases h
    | true =>
      rw [hb] at h
      have hl := Nat.eq_of_beq_eq_true hb
      simp only [layT_eq, frcT_eq, Option.some.injEq, Prod.mk.injEq] at h
      obtain ⟨rfl, rfl⟩ := h
      obtain ⟨h1, h2⟩ := layD_ok hn env' 0 (fullT .any d) (fullT_perf _ _) (by omega)
      refine ⟨h1, ?_⟩
      rw [he, h2]
      simp [toL_length, hl, List.drop_eq_nil_of_le]
  · cases h
noncomputable def iterT (step : ET → St → Option (AExit × ET × St)) (nn : Nat) (clr : List Tmp) (n : Nat) : ET → St → Option (AExit × ET × St) :=
  Nat.rec (motive := fun _ => ET → St → Option (AExit × ET × St)) (fun _ _ => none) (fun _ ih t σ => match step t σ with
    | some (.normal, t', σ') => clrT nn clr t' fun t' => ih t' σ'
    | r => r) n
noncomputable def evCT (run : Run) (n d n0 m : Nat) (x : ACode) : ET → St → Option (AExit × ET × St) :=
  ACode.rec (motive := fun _ => ET → St → Option (AExit × ET × St))
    (fun t σ => some (.normal, t, σ))
    (fun l t σ => match evOpsT run n l t σ with
      | some (t', σ') => some (.normal, t', σ')
      | none => none)
    (fun l t σ => match evDsT run n l t [σ] σ (fun _ => true) with
      | some (t', σ') => some (.normal, t', σ')
      | none => none)
    (fun _ _ iha ihb t σ => match iha t σ with
      | some (.normal, t', σ') => ihb t' σ'
      | r => r)
    (fun c _ _ iha ihb t σ => match boolA (fevT n t c) with
      | some true => iha t σ
      | some false => ihb t σ
      | none => none)
    (fun id _ iha t σ => match iha t σ with
      | some (.exit j, t', σ') => if j = id then some (.normal, t', σ') else some (.exit j, t', σ')
      | r => r)
    (fun clr _ iha t σ => clrT n clr t fun t => iterT iha n clr m t σ)
    (fun id t σ => some (.exit id, t, σ))
    (fun t σ => some (.ret, t, σ))
    (fun g _ iha t σ => match evGT n0 n d g t σ with
      | some (t', σ') => iha t' σ'
      | none => none)
    (fun _ g iha t σ => match iha t σ with
      | some (.normal, t', σ') => (match evGT n0 n d g t' σ' with
        | some (t'', σ'') => some (.normal, t'', σ'')
        | none => none)
      | r => r) x
theorem evCT_ok (run : Run) {n d n0 m : Nat} (hn : n ≤ 2 ^ d) : ∀ (x : ACode) (t : ET) (σ : St) (e : AExit) (t' : ET) (σ' : St), Perf d t → evCT run n d n0 m x t σ = some (e, t', σ') →
    Perf d t' ∧ evC run n0 m x (toL n t) σ = some (e, toL n t', σ') := by
  intro x
  induction x with
  | skip =>
    intro t σ e t' σ' hp h
    have e0 : evCT run n d n0 m .skip t σ = some (.normal, t, σ) := rfl
    rw [e0] at h
    simp only [Option.some.injEq, Prod.mk.injEq] at h; obtain ⟨rfl, rfl, rfl⟩ := h
    exact ⟨hp, rfl⟩
  | ops l =>
    intro t σ e t' σ' hp h
    have e0 : evCT run n d n0 m (.ops l) t σ = (match evOpsT run n l t σ with | some (t', σ') => some (.normal, t', σ') | none => none) := rfl
    rw [e0] at h
    split at h
    · rename_i h1
      simp only [Option.some.injEq, Prod.mk.injEq] at h; obtain ⟨rfl, rfl, rfl⟩ := h
      obtain ⟨h2, h3⟩ := evOpsT_ok run hn _ _ _ _ _ hp h1
      exact ⟨h2, by simp only [evC, h3]⟩
    · cases h
  | draw l =>
    intro t σ e t' σ' hp h
    have e0 : evCT run n d n0 m (.draw l) t σ = (match evDsT run n l t [σ] σ (fun _ => true) with | some (t', σ') => some (.normal, t', σ') | none => none) := rfl
    rw [e0] at h
    split at h
    · rename_i h1
      simp only [Option.some.injEq, Prod.mk.injEq] at h; obtain ⟨rfl, rfl, rfl⟩ := h
      obtain ⟨h2, h3⟩ := evDsT_ok run hn _ _ _ _ _ _ _ hp h1
      exact ⟨h2, by simp only [evC, h3]⟩
    · cases h
  | seq a b iha ihb =>
    intro t σ e t' σ' hp h
    have e0 : evCT run n d n0 m (.seq a b) t σ = (match evCT run n d n0 m a t σ with | some (.normal, t', σ') => evCT run n d n0 m b t' σ' | r => r) := rfl
    rw [e0] at h
    split at h
    · rename_i h1
      obtain ⟨h2, h3⟩ := iha _ _ _ _ _ hp h1
      obtain ⟨h4, h5⟩ := ihb _ _ _ _ _ h2 h
      exact ⟨h4, by simp only [evC, h3, h5]⟩
    · rename_i hne
      obtain ⟨h2, h3⟩ := iha _ _ _ _ _ hp h
      refine ⟨h2, ?_⟩
      simp only [evC, h3]
      cases e with
      | normal => exact absurd h (hne _ _)
      | exit => rfl
      | ret => rfl
  | cond c a b iha ihb =>
    intro t σ e t' σ' hp h
    have e0 : evCT run n d n0 m (.cond c a b) t σ = (match boolA (fevT n t c) with | some true => evCT run n d n0 m a t σ | some false => evCT run n d n0 m b t σ | none => none) := rfl
    rw [e0, fevT_eq] at h
    split at h
    · rename_i h1
      obtain ⟨h2, h3⟩ := iha _ _ _ _ _ hp h
      exact ⟨h2, by simp only [evC, h1, h3]⟩
    · rename_i h1
      obtain ⟨h2, h3⟩ := ihb _ _ _ _ _ hp h
      exact ⟨h2, by simp only [evC, h1, h3]⟩
    · cases h
  | block id a iha =>
    intro t σ e t' σ' hp h
    have e0 : evCT run n d n0 m (.block id a) t σ = (match evCT run n d n0 m a t σ with | some (.exit j, t', σ') => if j = id then some (AExit.normal, t', σ') else some (AExit.exit j, t', σ') | r => r) := rfl
    rw [e0] at h
    split at h
    · rename_i j _ _ h1
      obtain ⟨h2, h3⟩ := iha _ _ _ _ _ hp h1
      split at h
      · rename_i hj
        simp only [Option.some.injEq, Prod.mk.injEq] at h; obtain ⟨rfl, rfl, rfl⟩ := h
        exact ⟨h2, by simp only [evC, h3, if_pos hj]⟩
      · rename_i hj
        simp only [Option.some.injEq, Prod.mk.injEq] at h; obtain ⟨rfl, rfl, rfl⟩ := h
        exact ⟨h2, by simp only [evC, h3, if_neg hj]⟩
    · rename_i hne
      obtain ⟨h2, h3⟩ := iha _ _ _ _ _ hp h
      refine ⟨h2, ?_⟩
      simp only [evC, h3]
      cases e with
      | normal => rfl
      | exit j => exact absurd h (hne _ _ _)
      | ret => rfl
  | loop clr a iha =>
    intro t σ e t' σ' hp h
    have e0 : evCT run n d n0 m (.loop clr a) t σ = clrT n clr t fun t => iterT (evCT run n d n0 m a) n clr m t σ := rfl
    rw [e0, clrT_eq] at h
    have key : ∀ (k : Nat) (t : ET) (σ : St), Perf d t → iterT (evCT run n d n0 m a) n clr k t σ = some (e, t', σ') → Perf d t' ∧ iter (evC run n0 m a) clr k (toL n t) σ = some (e, toL n t', σ') := by
      intro k
      induction k with
      | zero => intro t σ _ h; cases h
      | succ k ih =>
        intro t σ hp h
        have e1 : iterT (evCT run n d n0 m a) n clr (k + 1) t σ = (match evCT run n d n0 m a t σ with
          | some (.normal, t', σ') => clrT n clr t' fun t' => iterT (evCT run n d n0 m a) n clr k t' σ'
          | r => r) := rfl
        rw [e1] at h
        simp only [clrT_eq] at h
        simp only [iter, frcL_eq]
        split at h
        · rename_i t1 s1 h1
          obtain ⟨h2, h3⟩ := iha _ _ _ _ _ hp h1
          obtain ⟨h4, h5⟩ := clrD_ok hn clr h2
          simp only [h3]
          rw [← h5]
          exact ih _ _ h4 h
        · rename_i hne
          obtain ⟨h2, h3⟩ := iha _ _ _ _ _ hp h
          refine ⟨h2, ?_⟩
          simp only [h3]
          cases e with
          | normal => exact absurd h (hne _ _)
          | exit => rfl
          | ret => rfl
    obtain ⟨h4, h5⟩ := clrD_ok hn clr hp
    obtain ⟨h6, h7⟩ := key m _ _ h4 h
    refine ⟨h6, ?_⟩
    simp only [evC, frcL_eq]
    rw [← h5]; exact h7
  | exit id =>
    intro t σ e t' σ' hp h
    have e0 : evCT run n d n0 m (.exit id) t σ = some (.exit id, t, σ) := rfl
    rw [e0] at h
    simp only [Option.some.injEq, Prod.mk.injEq] at h; obtain ⟨rfl, rfl, rfl⟩ := h
    exact ⟨hp, rfl⟩
  | ret =>
    intro t σ e t' σ' hp h
    have e0 : evCT run n d n0 m .ret t σ = some (.ret, t, σ) := rfl
    rw [e0] at h
    simp only [Option.some.injEq, Prod.mk.injEq] at h; obtain ⟨rfl, rfl, rfl⟩ := h
    exact ⟨hp, rfl⟩
  | ghost g a iha =>
    intro t σ e t' σ' hp h
    have e0 : evCT run n d n0 m (.ghost g a) t σ = (match evGT n0 n d g t σ with | some (t', σ') => evCT run n d n0 m a t' σ' | none => none) := rfl
    rw [e0] at h
    split at h
    · rename_i h1
      obtain ⟨h2, h3⟩ := evGT_ok hn h1
      obtain ⟨h4, h5⟩ := iha _ _ _ _ _ h2 h
      exact ⟨h4, by simp only [evC, frcL_eq, frcT_eq, h3, h5]⟩
    · cases h
  | after a g iha =>
    intro t σ e t' σ' hp h
    have e0 : evCT run n d n0 m (.after a g) t σ = (match evCT run n d n0 m a t σ with
      | some (.normal, t', σ') => (match evGT n0 n d g t' σ' with
        | some (t'', σ'') => some (AExit.normal, t'', σ'')
        | none => none)
      | r => r) := rfl
    rw [e0] at h
    split at h
    · rename_i h1
      obtain ⟨h2, h3⟩ := iha _ _ _ _ _ hp h1
      split at h
      · rename_i h4
        simp only [Option.some.injEq, Prod.mk.injEq] at h; obtain ⟨rfl, rfl, rfl⟩ := h
        obtain ⟨h5, h6⟩ := evGT_ok hn h4
        exact ⟨h5, by simp only [evC, frcL_eq, frcT_eq, h3, h6]⟩
      · cases h
    · rename_i hne
      obtain ⟨h2, h3⟩ := iha _ _ _ _ _ hp h
      refine ⟨h2, ?_⟩
      simp only [evC, h3]
      cases e with
      | normal => exact absurd h (hne _ _)
      | exit => rfl
      | ret => rfl
noncomputable def evFBT {P : Program} (C : List (Fun P)) (E : List (Ext P)) (m : Nat) (run : Run) : Run := fun f args σ =>
  match findR f C with
  | some F => Bool.rec (motive := fun _ => Option (AV × St)) none (match layT F.n args 0 (fullT .any (Nat.log2 F.n + 1)) fun t => evCT run F.n (Nat.log2 F.n + 1) σ.length m F.x t σ with
    | some (.exit _, _, _) => none
    | some (_, t', σ') => match resA (toL F.n t') σ' F.rvs with
      | some r => some (trimmed σ.length r σ')
      | none => none
    | none => none) (Nat.ble args.length F.n)
  | none => match findE f E with
    | some X => X.go args σ
    | none => none
theorem evFBT_ok {P : Program} (C : List (Fun P)) (E : List (Ext P)) (m : Nat) (run : Run) (f : FuncId) (args : List AV) (σ : St) (r : AV) (σ' : St) (h : evFBT C E m run f args σ = some (r, σ')) :
    evFB C E m run f args σ = some (r, σ') := by
  unfold evFBT at h
  unfold evFB
  rw [findR_eq] at h
  split at h
  · rename_i F hF
    simp only [hF, frcL_eq]
    cases hb : Nat.ble args.length F.n with
    | false => rw [hb] at h; cases h
    | true =>
      rw [hb] at h
      have hl := Nat.le_of_ble_eq_true hb
      have hn : F.n ≤ 2 ^ (Nat.log2 F.n + 1) := Nat.le_of_lt Nat.lt_log2_self
      simp only [layT_eq] at h
      obtain ⟨h1, h2⟩ := layD_ok hn args 0 (fullT .any (Nat.log2 F.n + 1)) (fullT_perf _ _) (by omega)
      have e1 : toL F.n (fullT .any (Nat.log2 F.n + 1)) = List.replicate F.n .any := by
        apply List.ext_getElem
        · simp [toL]
        · intro i h3 h4
          simp [toL, fullT_get]
      have e2 : toL F.n (layD F.n args 0 (fullT .any (Nat.log2 F.n + 1))) = args ++ List.replicate (F.n - args.length) .any := by
        rw [h2, e1]; simp
      split at h
      · cases h
      · rename_i e t' s hne he
        obtain ⟨h3, h4⟩ := evCT_ok run hn _ _ _ _ _ _ h1 he
        rw [e2] at h4
        simp only [h4]
        cases e with
        | exit id => exact absurd rfl (hne id)
        | normal => exact h
        | ret => exact h
      · cases h
  · rename_i hF
    simp only [hF]
    exact h
noncomputable def evFT {P : Program} (C : List (Fun P)) (E : List (Ext P)) (Ms : List (Memo P)) (m k : Nat) : Run :=
  Nat.rec (motive := fun _ => Run) (fun _ _ _ => none) (fun _ ih f args σ => match findM f args σ Ms with
    | some p => some p
    | none => evFBT C E m ih f args σ) k
theorem evFT_ok {P : Program} (C : List (Fun P)) (E : List (Ext P)) (Ms : List (Memo P)) (m : Nat) : ∀ (k : Nat) (f : FuncId) (args : List AV) (σ : St) (r : AV) (σ' : St), evFT C E Ms m k f args σ = some (r, σ') → Ans P f args σ r σ'
  | 0, _, _, _, _, _, h => by cases h
  | k + 1, f, args, σ, r, σ', h => by
    have e : evFT C E Ms m (k + 1) f args σ = (match findM f args σ Ms with
      | some p => some p
      | none => evFBT C E m (evFT C E Ms m k) f args σ) := rfl
    rw [e] at h
    split at h
    · rename_i p hp
      simp only [Option.some.injEq] at h
      subst h
      exact findM_ok hp
    · exact evFB_ok C E m (evFT_ok C E Ms m k) f args σ r σ' (evFBT_ok C E m _ f args σ r σ' h)
end Go.Ab
