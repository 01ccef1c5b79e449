/- The scan of a text by a program: what it computes. No condition. -/
import Derived.Test.YtoadgajhkhejiaaGreatYPChkBA
import Derived.Test.YtoadgajhkhejiaaGreatCod2A
set_option linter.unusedSimpArgs false
set_option linter.unusedVariables false
namespace Go.Proofs.YtoadgajhkhejiaaGreat
open Go Go.Ab
set_option maxRecDepth 100000
abbrev W (b : BitVec 64) : AV := U (b.toNat : Int)
def bitW (i : Nat) : BitVec 64 := BitVec.twoPow 64 i
theorem wrapW (b : BitVec 64) : IntKind.u64.wrap (b.toNat : Int) = (b.toNat : Int) := by
 have := b.isLt
 simp only [IntKind.wrap, IntKind.bits, IntKind.signed]; simp; omega
theorem ofIntW (b : BitVec 64) : BitVec.ofInt 64 (b.toNat : Int) = b := by simp
theorem W_or (a b : BitVec 64) : IntKind.u64.wrap (BitVec.ofInt IntKind.u64.bits (a.toNat : Int) ||| BitVec.ofInt IntKind.u64.bits (b.toNat : Int)).toNat = ((a ||| b).toNat : Int) := by
 show IntKind.u64.wrap (((BitVec.ofInt 64 (a.toNat : Int) ||| BitVec.ofInt 64 (b.toNat : Int)).toNat : Nat) : Int) = _
 rw [ofIntW, ofIntW, wrapW]
theorem W_bit (i : Nat) (h : i < 64) : IntKind.u64.wrap (1 * 2 ^ (min ((i : Int)).toNat IntKind.u64.bits)) = ((bitW i).toNat : Int) := by
 rw [Int.toNat_natCast, show min i IntKind.u64.bits = i from Nat.min_eq_left (Nat.le_of_lt h), Int.one_mul, bitW, BitVec.toNat_twoPow_of_lt h]
 have : (2 : Nat) ^ i < 2 ^ 64 := Nat.pow_lt_pow_right (by omega) h
 have e : ((2 : Int) ^ i) = (((2 : Nat) ^ i : Nat) : Int) := by simp
 rw [e]
 generalize (2 : Nat) ^ i = n at this ⊢
 simp only [IntKind.wrap, IntKind.bits, IntKind.signed]; simp; omega
theorem W_get (b : BitVec 64) (i : Nat) (h : i < 64) : (IntKind.u64.wrap (BitVec.ofInt IntKind.u64.bits ((b.toNat : Int).fdiv (2 ^ (min ((i : Int)).toNat IntKind.u64.bits))) &&& BitVec.ofInt IntKind.u64.bits 1).toNat == 1) = b.getLsbD i := by
 rw [Int.toNat_natCast, show min i IntKind.u64.bits = i from Nat.min_eq_left (Nat.le_of_lt h)]
 have e1 : (b.toNat : Int).fdiv (2 ^ i) = ((b >>> i).toNat : Int) := by
  rw [BitVec.toNat_ushiftRight, Nat.shiftRight_eq_div_pow, Int.fdiv_eq_ediv_of_nonneg _ (Int.pow_nonneg (by omega))]
  simp
 show (IntKind.u64.wrap (((BitVec.ofInt 64 ((b.toNat : Int).fdiv (2 ^ i)) &&& BitVec.ofInt 64 1).toNat : Nat) : Int) == 1) = _
 rw [e1, ofIntW, show BitVec.ofInt 64 1 = 1#64 from rfl, wrapW, Bool.eq_iff_iff, beq_iff_eq]
 have e2 : ((b >>> i) &&& 1#64).toNat = (b.getLsbD i).toNat := by
  rw [BitVec.toNat_and, BitVec.toNat_ushiftRight]
  show b.toNat >>> i &&& 1 = _
  rw [Nat.and_one_is_mod, BitVec.getLsbD, Nat.testBit, Nat.and_comm, Nat.and_one_is_mod]
  rcases Nat.mod_two_eq_zero_or_one (b.toNat >>> i) with h | h <;> rw [h] <;> rfl
 rw [e2]
 cases b.getLsbD i <;> simp
def pcome (ys : List Stp) : Nat → Nat → BitVec 64 → BitVec 64 × BitVec 64
 | 0, _, been => (0, been)
 | f + 1, at_, been => if been.getLsbD at_ then (0, been) else
   match ys[at_]? with
   | none => (0, been)
   | some s => if s.op == 2 then
      ((pcome ys f s.x.toNat (been ||| bitW at_)).1 ||| (pcome ys f s.y.toNat (pcome ys f s.x.toNat (been ||| bitW at_)).2).1, (pcome ys f s.y.toNat (pcome ys f s.x.toNat (been ||| bitW at_)).2).2)
     else if s.op == 3 then pcome ys f s.x.toNat (been ||| bitW at_)
     else (bitW at_, been ||| bitW at_)
theorem or_ge (a b : BitVec 64) : a.toNat ≤ (a ||| b).toNat := by rw [BitVec.toNat_or]; exact Nat.left_le_or
theorem or_gt (a : BitVec 64) (i : Nat) (hi : i < 64) (h : a.getLsbD i = false) : a.toNat < (a ||| bitW i).toNat := by
 refine Nat.lt_of_le_of_ne (or_ge _ _) fun e => ?_
 have e' : a = a ||| bitW i := BitVec.eq_of_toNat_eq e
 have := congrArg (·.getLsbD i) e'
 rw [BitVec.getLsbD_or, h] at this
 simp [bitW, BitVec.getLsbD_twoPow, hi] at this
theorem pcome_ge (ys : List Stp) : ∀ (f at_ : Nat) (b : BitVec 64), b.toNat ≤ (pcome ys f at_ b).2.toNat
 | 0, _, _ => Nat.le_refl _
 | f + 1, at_, b => by
   rw [pcome]; split
   · exact Nat.le_refl _
   · split
     · exact Nat.le_refl _
     · have h0 := or_ge b (bitW at_)
       split
       · exact Nat.le_trans h0 (Nat.le_trans (pcome_ge ys f _ _) (pcome_ge ys f _ _))
       · split
         · exact Nat.le_trans h0 (pcome_ge ys f _ _)
         · exact h0
def stepIn (n : Nat) (s : Stp) : Prop := (s.op = 2 → (0 ≤ s.x ∧ s.x < n) ∧ (0 ≤ s.y ∧ s.y < n)) ∧ (s.op = 3 → 0 ≤ s.x ∧ s.x < n)
def stepsIn (ys : List Stp) : Prop := ∀ s ∈ ys, stepIn ys.length s
theorem right_in {s : Stp} {n : Nat} {last : Bool} (h : rightS s n last = true) : stepIn n s := by
 unfold rightS at h
 split at h
 · cases h
 split at h
 · rename_i h1; have h1 : s.op = 1 := by simpa using h1
   exact ⟨fun e => by omega, fun e => by omega⟩
 split at h
 · rename_i h1; have h1 : s.op = 2 := by simpa using h1
   simp only [inR, Bool.and_eq_true, decide_eq_true_eq] at h
   exact ⟨fun _ => h, fun e => by omega⟩
 split at h
 · rename_i h1; have h1 : s.op = 3 := by simpa using h1
   simp only [inR, Bool.and_eq_true, decide_eq_true_eq] at h
   exact ⟨fun e => by omega, fun _ => h.1⟩
 · rename_i h1 h2
   exact ⟨fun e => by simp [e] at h1, fun e => by simp [e] at h2⟩
theorem check_in {ys : List Stp} (h : pcheck ys = true) : stepsIn ys ∧ 1 ≤ ys.length ∧ ys.length ≤ 40 := by
 unfold pcheck at h
 split at h
 · cases h
 split at h
 · cases h
 rename_i h1 h2
 simp only [decide_eq_true_eq, Bool.not_eq_true] at h1 h2
 have h1' : 1 ≤ ys.length := by omega
 have h2' : ys.length ≤ 40 := by omega
 refine ⟨?_, h1', h2'⟩
 rw [List.getElem?_eq_getElem (show ys.length - 1 < ys.length by omega)] at h
 simp only [Bool.and_eq_true, Bool.not_eq_true', List.any_eq_false, Bool.not_eq_false] at h
 intro s hs
 obtain ⟨i, hi, rfl⟩ := List.getElem_of_mem hs
 by_cases he : i = ys.length - 1
 · subst he
   exact right_in h.2
 · have := h.1 (ys[i]) (by
    rw [List.mem_take_iff_getElem]
    exact ⟨i, by omega, rfl⟩)
   exact right_in (by simpa using this)
end Go.Proofs.YtoadgajhkhejiaaGreat
namespace Go.Proofs.YtoadgajhkhejiaaGreat
open Go Go.Ab
set_option maxRecDepth 100000
theorem qG {σ : St} {p : Nat} (hp : p < σ.length) (o : Ob) (ex : St) : (σ.set p o ++ ex)[p]? = some o := by
 rw [List.getElem?_append_left (by simpa using hp)]; simp [hp]
theorem qS {σ : St} {p : Nat} (hp : p < σ.length) (o o' : Ob) (ex : St) : (σ.set p o ++ ex).set p o' = σ.set p o' ++ ex := by
 rw [List.set_append_left _ _ (by simpa using hp), List.set_set]
theorem qG0 {σ : St} {p : Nat} (hp : p < σ.length) (o : Ob) : (σ.set p o)[p]? = some o := by simp [hp]
theorem qS0 {σ : St} {p : Nat} (o o' : Ob) : (σ.set p o).set p o' = σ.set p o' := by simp
theorem qL (σ : St) (p : Nat) (o x : Ob) (ex : St) : (σ.set p o ++ x :: ex)[σ.length]? = some x := by
 rw [List.getElem?_append_right (by simp)]; simp
theorem qLs (σ : St) (p : Nat) (o x y : Ob) (ex : St) : (σ.set p o ++ x :: ex).set σ.length y = σ.set p o ++ y :: ex := by
 rw [List.set_append_right _ _ (by simp)]; simp
theorem bel_wbox {σ : St} {p : Nat} {b : BitVec 64} (h : ∀ o ∈ σ.set p (.box [W b]), BelO (σ.set p (.box [W b])).length o) (b' : BitVec 64) :
  ∀ o ∈ σ.set p (.box [W b']), BelO (σ.set p (.box [W b'])).length o := by
 have e : σ.set p (.box [W b']) = (σ.set p (.box [W b])).set p (.box [W b']) := by rw [List.set_set]
 have el : (σ.set p (.box [W b'])).length = (σ.set p (.box [W b])).length := by simp
 rw [el, e]
 refine bel_set h fun x hx => ?_
 simp only [List.mem_cons, List.not_mem_nil, or_false] at hx
 subst hx; exact .pl _
theorem come_ans (ys : List Stp) (hin : stepsIn ys) (hl : ys.length ≤ 40) : ∀ (f at_ : Nat) (b : BitVec 64) (σ : St) (p : Nat), p < σ.length → 2 ^ 64 < b.toNat + f → at_ < ys.length →
  Ans Tryz.prog 107 [.sl 7 (ys.map Stp.av), I at_, .ptr p 0] (σ.set p (.box [W b])) (W (pcome ys f at_ b).1) (σ.set p (.box [W (pcome ys f at_ b).2]))
 | 0, at_, b, σ, p, hp, hf, ha => by have := b.isLt; omega
 | f + 1, at_, b, σ, p, hp, hf, ha => by
   have h64 : at_ < 64 := by omega
   refine Ans.of_run' t107 (fun hbel _ => ?_)
   have e1 := W_bit at_ h64
   have e2 := W_or b (bitW at_)
   simp -implicitDefEqProofs only [go_sem] at e1 e2
   simp -implicitDefEqProofs only [c107, r107, go_sem, qG0 hp]
   rw [pcome]
   refine C.split (fun hb => ?_) (fun hb => ?_)
   · have hb' : b.getLsbD at_ = true := (W_get b at_ h64).symm.trans hb
     rw [hb']
     simp -implicitDefEqProofs only [go_sem]
     exact Fini.ret rfl
   · have hb' : b.getLsbD at_ = false := (W_get b at_ h64).symm.trans hb
     have hget : (ys.map Stp.av)[at_]? = some (ys[at_]'ha).av := by simp [ha]
     have hy : ys[at_]? = some (ys[at_]'ha) := List.getElem?_eq_getElem ha
     rw [hy, hb']
     have hs := hin _ (List.getElem_mem ha)
     have hgt := or_gt b at_ h64 hb'
     generalize hse : ys[at_] = s at hget hs ⊢
     simp -implicitDefEqProofs only [go_sem, qG0 hp, qS0, e1, e2, hget, Stp.av, List.length_set, qL, qLs, qG hp, qS hp, List.drop_nil]
     have rec' : ∀ (a : Nat) (b' : BitVec 64) (ex : St), (b ||| bitW at_).toNat ≤ b'.toNat → a < ys.length →
       Ans Tryz.prog 107 [.sl 7 (ys.map Stp.av), I a, .ptr p 0] (σ.set p (.box [W b']) ++ ex) (W (pcome ys f a b').1) (σ.set p (.box [W (pcome ys f a b').2]) ++ ex) := fun a b' ex h1 h2 => by
      have := come_ans ys hin hl f a b' (σ.set p (.box [W b']) ++ ex) p (by simp; omega) (by omega) h2
      simpa only [qS hp] using this
     have recI : ∀ (x : Int) (b' : BitVec 64) (ex : St), (b ||| bitW at_).toNat ≤ b'.toNat → 0 ≤ x → x < ys.length →
       Ans Tryz.prog 107 [.sl 7 (ys.map Stp.av), I x, .ptr p 0] (σ.set p (.box [W b']) ++ ex) (W (pcome ys f x.toNat b').1) (σ.set p (.box [W (pcome ys f x.toNat b').2]) ++ ex) := fun x b' ex h1 h2 h3 => by
      have := rec' x.toNat b' ex h1 (by omega)
      rwa [Int.toNat_of_nonneg h2] at this
     have fin : ∀ (r b' : BitVec 64) (env : Env) (ex : St), resA env (σ.set p (.box [W b']) ++ ex) [.tmp 6] = some (W r) →
       Fini σ.length [.tmp 6] (W r) (σ.set p (.box [W b'])) .ret env (σ.set p (.box [W b']) ++ ex) := fun r b' env ex h =>
      Fini.trim2 (σ' := σ.set p (.box [W b'])) (ex := ex) h rfl (by simp) (.pl _) (bel_wbox hbel _)
     refine C.split (fun h2 => ?_) (fun h2 => ?_)
     · have h2' : s.op = 2 := by simpa using h2
       have hx := hs.1 h2'
       have g1 := pcome_ge ys f s.x.toNat (b ||| bitW at_)
       rw [h2]
       simp -implicitDefEqProofs only [go_sem, h2, qL, qG hp]
       refine CD.intro (recI s.x _ _ (Nat.le_refl _) hx.1.1 hx.1.2) ?_
       simp -implicitDefEqProofs only [go_sem, qL, qG hp, List.take]
       refine CD.intro (recI s.y _ _ g1 hx.2.1 hx.2.2) ?_
       have e3 := W_or (pcome ys f s.x.toNat (b ||| bitW at_)).1 (pcome ys f s.y.toNat (pcome ys f s.x.toNat (b ||| bitW at_)).2).1
       simp -implicitDefEqProofs only [go_sem] at e3
       simp -implicitDefEqProofs only [go_sem, qL, qG hp, e3, List.take]
       exact fin _ _ _ _ rfl
     · simp -implicitDefEqProofs only [go_sem, h2, qL, qG hp]
       refine C.split (fun h3 => ?_) (fun h3 => ?_)
       · have h3' : s.op = 3 := by simpa using h3
         have hx := hs.2 h3'
         simp -implicitDefEqProofs only [go_sem, h3, qL, qG hp]
         refine CO.intro (recI s.x _ _ (Nat.le_refl _) hx.1 hx.2) ?_
         simp -implicitDefEqProofs only [go_sem]
         exact fin _ _ _ _ rfl
       · simp -implicitDefEqProofs only [go_sem, h3, e1, qL, qG hp]
         exact fin _ _ _ _ rfl
end Go.Proofs.YtoadgajhkhejiaaGreat
namespace Go.Proofs.YtoadgajhkhejiaaGreat
open Go Go.Ab
set_option maxRecDepth 100000
namespace Rex
mutual
def lay : Nat → Rex → List Stp
 | n, .mk op a b c d ks =>
   if op == 1 then [⟨1, a, b, c, d, 0, 0⟩]
   else if op == 2 then layL n ks
   else if op == 3 then layW n ((n + (layW n 0 ks).length : Nat) : Int) ks
   else if op == 4 then ⟨2, 0, 0, 0, 0, (n : Int) + 1, ((n + 2 + (layH (n + 1) ks).length : Nat) : Int)⟩ :: (layH (n + 1) ks ++ [⟨3, 0, 0, 0, 0, (n : Int), 0⟩])
   else if op == 5 then layH n ks ++ [⟨2, 0, 0, 0, 0, (n : Int), ((n + (layH n ks).length : Nat) : Int) + 1⟩]
   else if op == 6 then ⟨2, 0, 0, 0, 0, (n : Int) + 1, ((n + 1 + (layH (n + 1) ks).length : Nat) : Int)⟩ :: layH (n + 1) ks
   else []
def layL : Nat → List Rex → List Stp
 | _, [] => []
 | n, x :: xs => lay n x ++ layL (n + (lay n x).length) xs
def layH : Nat → List Rex → List Stp
 | _, [] => []
 | n, x :: _ => lay n x
def layW : Nat → Int → List Rex → List Stp
 | _, _, [] => []
 | n, fin, x :: xs => if xs.isEmpty then lay n x else
   ⟨2, 0, 0, 0, 0, (n : Int) + 1, ((n + 2 + (lay (n + 1) x).length : Nat) : Int)⟩ :: (lay (n + 1) x ++ (⟨3, 0, 0, 0, 0, fin, 0⟩ :: layW (n + 2 + (lay (n + 1) x).length) fin xs))
end
theorem lay_eq (n : Nat) (x : Rex) : lay n x = (if x.op == 1 then [⟨1, x.a, x.b, x.c, x.d, 0, 0⟩]
  else if x.op == 2 then layL n x.ks
  else if x.op == 3 then layW n ((n + (layW n 0 x.ks).length : Nat) : Int) x.ks
  else if x.op == 4 then ⟨2, 0, 0, 0, 0, (n : Int) + 1, ((n + 2 + (layH (n + 1) x.ks).length : Nat) : Int)⟩ :: (layH (n + 1) x.ks ++ [⟨3, 0, 0, 0, 0, (n : Int), 0⟩])
  else if x.op == 5 then layH n x.ks ++ [⟨2, 0, 0, 0, 0, (n : Int), ((n + (layH n x.ks).length : Nat) : Int) + 1⟩]
  else if x.op == 6 then ⟨2, 0, 0, 0, 0, (n : Int) + 1, ((n + 1 + (layH (n + 1) x.ks).length : Nat) : Int)⟩ :: layH (n + 1) x.ks
  else []) := by
 cases x; simp only [lay]; rfl
theorem is_kid {x k : Rex} (h : x.is = true) (hk : k ∈ x.ks) : k.is = true := by
 rw [is_eq] at h
 have key : (plain x && !(x.ks.any fun k => !k.is)) = true → k.is = true := by
  intro h
  simp only [Bool.and_eq_true, Bool.not_eq_true', List.any_eq_false] at h
  simpa using h.2 k hk
 split at h
 · simp at h; rw [h] at hk; cases hk
 · (repeat' split at h) <;> first | exact key h | cases h
theorem is_one_kid {x : Rex} (h : x.is = true) (ho : x.op = 4 ∨ x.op = 5 ∨ x.op = 6) : ∃ k, x.ks = [k] := by
 rw [is_eq] at h
 have key : ¬ ((x.ks.length : Int) != 1) = true → ∃ k, x.ks = [k] := by
  intro h
  simp at h
  match hk : x.ks with
  | [k] => exact ⟨k, rfl⟩
  | [] => rw [hk] at h; simp at h
  | _ :: _ :: _ => rw [hk] at h; simp at h; omega
 rcases ho with ho | ho | ho <;> rw [ho] at h <;> simp at h <;> exact key (by simp; exact_mod_cast h.1)
theorem is_some_kid {x : Rex} (h : x.is = true) (ho : x.op = 3) : x.ks ≠ [] := by
 rw [is_eq, ho] at h
 intro hk
 rw [hk] at h
 simp at h
theorem is_ops {x : Rex} (h : x.is = true) : x.op = 1 ∨ x.op = 2 ∨ x.op = 3 ∨ x.op = 4 ∨ x.op = 5 ∨ x.op = 6 := by
 rw [is_eq] at h
 by_cases h1 : x.op = 1; · exact .inl h1
 by_cases h2 : x.op = 2; · exact .inr (.inl h2)
 by_cases h3 : x.op = 3; · exact .inr (.inr (.inl h3))
 by_cases h4 : x.op = 4; · simp [h4]
 by_cases h5 : x.op = 5; · simp [h5]
 by_cases h6 : x.op = 6; · simp [h6]
 simp [h1, h2, h3, h4, h5, h6] at h
theorem lay_len (n : Nat) (x : Rex) (h : x.is = true) : ((lay n x).length : Int) = x.size := by
 have hL : ∀ (l : List Rex), (∀ k ∈ l, k ∈ x.ks) → ∀ n, ((layL n l).length : Int) = sizeL l := by
  intro l
  induction l with
  | nil => intro _ n; simp [layL, sizeL]
  | cons k l ih =>
    intro hl n
    have h1 := lay_len n k (is_kid h (hl k (by simp)))
    have h2 := ih (fun k hk => hl k (by simp [hk])) (n + (lay n k).length)
    simp only [layL, sizeL, List.length_append]
    omega
 have hW : ∀ (l : List Rex), (∀ k ∈ l, k ∈ x.ks) → ∀ n fin, l ≠ [] → ((layW n fin l).length : Int) = sizeL l + 2 * ((l.length : Int) - 1) := by
  intro l
  induction l with
  | nil => intro _ n fin h; exact absurd rfl h
  | cons k l ih =>
    intro hl n fin _
    cases l with
    | nil =>
      have h1 := lay_len n k (is_kid h (hl k (by simp)))
      simp only [layW, sizeL, List.isEmpty_nil, if_true, List.length_singleton]
      omega
    | cons k' l =>
      have h1 := lay_len (n + 1) k (is_kid h (hl k (by simp)))
      have h2 := ih (fun k hk => hl k (by simp [hk])) (n + 2 + (lay (n + 1) k).length) fin (by simp)
      rw [layW]
      simp only [List.isEmpty_cons, Bool.false_eq_true, if_false, List.length_cons, List.length_append]
      rw [sizeL]
      simp only [List.length_cons] at h2
      omega
 have hH : ∀ k, x.ks = [k] → ∀ n, ((layH n x.ks).length : Int) = sizeL x.ks := by
  intro k hk n
  rw [hk]
  have h1 := lay_len n k (is_kid h (by rw [hk]; simp))
  simp only [layH, sizeL]; omega
 rw [lay_eq, size_eq]
 rcases is_ops h with h1 | h1 | h1 | h1 | h1 | h1
 · simp [h1]
 · simp [h1]; exact hL x.ks (fun _ h => h) n
 · simp [h1]; exact hW x.ks (fun _ h => h) n _ (is_some_kid h h1)
 · obtain ⟨k, hk⟩ := is_one_kid h (.inl h1)
   have := hH k hk (n + 1)
   simp [h1]; omega
 · obtain ⟨k, hk⟩ := is_one_kid h (.inr (.inl h1))
   have := hH k hk n
   simp [h1]; omega
 · obtain ⟨k, hk⟩ := is_one_kid h (.inr (.inr h1))
   have := hH k hk (n + 1)
   simp [h1]; omega
termination_by SizeOf.sizeOf x
decreasing_by
 · exact lt_of_mem (hl k (by simp))
 · exact lt_of_mem (hl k (by simp))
 · exact lt_of_mem (hl k (by simp))
 · exact lt_of_mem (by rw [hk]; simp)
end Rex
end Go.Proofs.YtoadgajhkhejiaaGreat
namespace Go.Proofs.YtoadgajhkhejiaaGreat
open Go Go.Ab
set_option maxRecDepth 100000
open Rex
theorem get_mid (A E : St) (o : Ob) : (A ++ o :: E)[A.length]? = some o := by simp
theorem set_mid (A E : St) (o p : Ob) : (A ++ o :: E).set A.length p = A ++ p :: E := by simp
theorem CD.intro' {P : Program} {n0 : Nat} {k : List Fr} {B : Bs} {env : Env} {σ σ₀ σ' : St} {S : List St} {ob : List St → Prop} {f : FuncId} {args args₀ : List AV} {d : Option Tmp} {l : List DOper} {r : AV} (h : Ans P f args₀ σ₀ r σ') (ha : args = args₀) (hs : σ = σ₀)
  (h' : D P n0 l k B (putA env d r) (S ++ [σ']) σ' ob) : CD P n0 f args d l k B env S σ ob := by subst ha; subst hs; exact CD.intro h h'
def rowV (k : Nat) (L : List AV) : AV := if L.isEmpty then .nils else .osl k L.length
def rowS (sz : Nat) (A : St) (L : List AV) (E : St) : St := if L.isEmpty then A ++ E else A ++ .row sz L :: E
theorem rowV_nil (k : Nat) : rowV k [] = .nils := rfl
theorem rowS_nil (sz : Nat) (A : St) : rowS sz A [] [] = A := by simp [rowS]
theorem rowV_ne {k : Nat} {L : List AV} (h : L ≠ []) : rowV k L = .osl k L.length := by simp [rowV, h]
theorem rowS_ne {sz : Nat} {A E : St} {L : List AV} (h : L ≠ []) : rowS sz A L E = A ++ .row sz L :: E := by simp [rowS, h]
abbrev sv (l : List Stp) : List AV := l.map Stp.av
theorem sv_ne {l : List Stp} (h : l ≠ []) : sv l ≠ [] := by simpa [sv] using h
def Lays (x : Rex) : Prop := ∀ (ls : List Stp) (A E : St), (ls = [] → E = []) → (ls.length : Int) + x.size ≤ 1000 →
 Ans Tryz.prog 103 [rowV A.length (sv ls), x.av] (rowS 7 A (sv ls) E) (rowV A.length (sv (ls ++ lay ls.length x))) (rowS 7 A (sv (ls ++ lay ls.length x)) E)
theorem Lays.own {x : Rex} (h : Lays x) (ls : List Stp) (A E : St) (hne : ls ≠ []) (hb : (ls.length : Int) + x.size ≤ 1000) :
  Ans Tryz.prog 103 [.osl A.length ls.length, x.av] (A ++ .row 7 (sv ls) :: E) (.osl A.length (ls.length + (lay ls.length x).length)) (A ++ .row 7 (sv (ls ++ lay ls.length x)) :: E) := by
 have := h ls A E (fun e => absurd e hne) hb
 rw [rowV_ne (sv_ne hne), rowS_ne (sv_ne hne), rowV_ne (sv_ne (by simp [hne])), rowS_ne (sv_ne (by simp [hne]))] at this
 simpa [sv] using this
theorem lays_set (x : Rex) (ho : x.op = 1) : Lays x := by
 intro ls A E hE hb
 have e1 : (ls.length + 1 ≤ 2 ^ 32) = True := by
  have : x.size = 1 := by rw [size_eq, ho]; rfl
  simp; omega
 rw [lay_eq, av_eq, ho]
 rcases Classical.em (ls = []) with rfl | hne
 · have := hE rfl; subst this
   rw [sv, List.map_nil, rowV_nil, rowS_nil]
   refine Ans.of_run t103 ?_
   simp -implicitDefEqProofs only [c103, r103, go_sem]
   refine Fini.ret2 (n := 0) rfl ?_ ?_
   · simp [rowV, Stp.av]; rfl
   · simp [rowS, Stp.av, ho]
 · rw [rowV_ne (sv_ne hne), rowS_ne (sv_ne hne), rowV_ne (sv_ne (by simp [hne])), rowS_ne (sv_ne (by simp [hne]))]
   refine Ans.of_run t103 ?_
   simp -implicitDefEqProofs only [c103, r103, go_sem, List.length_map, get_mid, set_mid, e1]
   refine Fini.ret2 (n := 0) rfl ?_ ?_
   · simp; rfl
   · simp [Stp.av]
def lenA (σ : St) (u : AV) : Option (AV × St) := aop (fun _ => u) σ (.lenv (.tmp 0))
theorem O_lenv {P : Program} {n0 : Nat} {k : List Fr} {B : Bs} {env : Env} {σ : St} {d : Option Tmp} {x : Operand} {l : List AOper} : O P n0 (⟨d, none, .prim (.lenv x)⟩ :: l) k B env σ = (match lenA σ (aev env x) with
  | some (r, σ') => O P n0 l k B (putA env d r) σ'
  | none => False) := by rw [O_prim]; rfl
theorem lenA_sl {σ : St} {sz : Nat} {xs : List AV} : lenA σ (.sl sz xs) = some (.pl (.int .i64 xs.length), σ) := rfl
theorem lenA_row {A E : St} (ls : List Stp) (hE : ls = [] → E = []) : lenA (rowS 7 A (sv ls) E) (rowV A.length (sv ls)) = some (.pl (.int .i64 ls.length), rowS 7 A (sv ls) E) := by
 rcases Classical.em (ls = []) with rfl | hne
 · rfl
 · rw [rowV_ne (sv_ne hne), rowS_ne (sv_ne hne)]
   simp [lenA, aop]
theorem layL_take (n : Nat) : ∀ (l : List Rex) (i : Nat) (hi : i < l.length), layL n (l.take (i + 1)) = layL n (l.take i) ++ lay (n + (layL n (l.take i)).length) l[i]
 | x :: xs, 0, hi => by simp [layL]
 | x :: xs, i + 1, hi => by
   have := layL_take (n + (lay n x).length) xs i (by simpa using hi)
   simp only [List.take_succ_cons, layL, List.getElem_cons_succ, List.append_assoc, this, List.length_append]
   rw [Nat.add_assoc]
theorem lays_seq (x : Rex) (ho : x.op = 2) (h : x.is = true) (ih : ∀ k ∈ x.ks, Lays k) (hl : x.ks.length ≤ 1000) : Lays x := by
 intro ls A E hE hb
 have hget : ∀ i (hi : i < x.ks.length), (x.ks.map av)[i]? = some (x.ks[i]).av := fun i hi => by simp [hi]
 have hsz : x.size = sizeL x.ks := by rw [size_eq, ho]; rfl
 have hnn : ∀ l : List Rex, (∀ k ∈ l, k.is = true) → 0 ≤ sizeL l := by
  intro l
  induction l with
  | nil => intro _; simp [sizeL]
  | cons k l ih =>
    intro hl
    have h1 := lay_len 0 k (hl k (by simp))
    have h2 := ih fun k hk => hl k (by simp [hk])
    simp only [sizeL]; omega
 have hlen : ∀ l : List Rex, (∀ k ∈ l, k.is = true) → ∀ n, ((layL n l).length : Int) = sizeL l := by
  intro l
  induction l with
  | nil => intro _ n; simp [layL, sizeL]
  | cons k l ih =>
    intro hl n
    have h1 := lay_len n k (hl k (by simp))
    have h2 := ih (fun k hk => hl k (by simp [hk])) (n + (lay n k).length)
    simp only [layL, sizeL, List.length_append]; omega
 have htake : ∀ i (hi : i < x.ks.length), sizeL (x.ks.take i) + (x.ks[i]).size ≤ sizeL x.ks := by
  intro i hi
  have e : x.ks = x.ks.take (i + 1) ++ x.ks.drop (i + 1) := by simp
  have h2 := hnn (x.ks.drop (i + 1)) fun k hk => is_kid h (List.mem_of_mem_drop hk)
  have h3 := sizeL_append (x.ks.take (i + 1)) (x.ks.drop (i + 1))
  rw [← e] at h3
  have h4 := sizeL_take x.ks i hi
  omega
 have hend : ls ++ lay ls.length x = ls ++ layL ls.length (x.ks.take x.ks.length) := by rw [lay_eq, ho, List.take_length]; rfl
 rw [hend, av_eq, ho]
 refine Ans.of_run t103 ?_
 simp -implicitDefEqProofs only [c103, r103, go_sem, O_lenv, lenA_row ls hE, lenA_sl, List.length_map]
 refine L.count x.ks.length (fun i => mkE 99 [(0, rowV A.length (sv (ls ++ layL ls.length (x.ks.take i)))), (23, .sl 6 (x.ks.map av)), (24, I x.ks.length), (25, I i)]) (fun i => rowS 7 A (sv (ls ++ layL ls.length (x.ks.take i))) E) ?_ ?_ ?_ ?_
 · intro i hi J hJ
   have e1 : ((i : Int) < (x.ks.length : Nat)) = True := by simp; omega
   have e2 : IntKind.i64.wrap ((i : Int) + 1) = ((i + 1 : Nat) : Int) := by rw [wrapN (by omega) (by omega)]; rfl
   have hi1 := htake i hi
   have hi2 := hlen (x.ks.take i) (fun k hk => is_kid h (List.mem_of_mem_take hk)) ls.length
   simp -implicitDefEqProofs only [mkE, go_sem, e1, hget i hi]
   rw [av_eq]
   simp -implicitDefEqProofs only [go_sem]
   rw [← av_eq]
   refine CO.intro (ih x.ks[i] (List.getElem_mem hi) (ls ++ layL ls.length (x.ks.take i)) A E (fun e => hE (by simp at e; exact e.1)) (by rw [List.length_append]; omega)) ?_
   rw [List.append_assoc, List.length_append, ← layL_take]
   simp -implicitDefEqProofs only [go_sem, e2]
   exact hJ
 · intro J
   have e1 : (((x.ks.length : Nat) : Int) < (x.ks.length : Nat)) = False := by simp
   simp -implicitDefEqProofs only [mkE, go_sem, e1]
   exact Fini.ret rfl
 · simp [layL, mkE]
 · simp [layL]
end Go.Proofs.YtoadgajhkhejiaaGreat
namespace Go.Proofs.YtoadgajhkhejiaaGreat
open Go Go.Ab
set_option maxRecDepth 100000
open Rex
theorem size_kid {x k : Rex} (hk : x.ks = [k]) : sizeL x.ks = k.size := by rw [hk]; simp [sizeL]
theorem map_kid (k : Rex) : List.map av [k] = [.agg [I k.op, U k.a, U k.b, U k.c, U k.d, .sl 6 (k.ks.map av)]] := by rw [List.map_cons, List.map_nil, av_eq]
theorem row_intro {P : Program} {f : FuncId} {more : List AV} {ls M : List Stp} {A E : St} (hE : ls = [] → E = []) (hM : M ≠ [])
  (h1 : ls = [] → Ans P f (.nils :: more) A (.osl A.length M.length) (A ++ [.row 7 (sv M)]))
  (h2 : ls ≠ [] → Ans P f (.osl A.length ls.length :: more) (A ++ .row 7 (sv ls) :: E) (.osl A.length (ls.length + M.length)) (A ++ .row 7 (sv (ls ++ M)) :: E)) :
  Ans P f (rowV A.length (sv ls) :: more) (rowS 7 A (sv ls) E) (rowV A.length (sv (ls ++ M))) (rowS 7 A (sv (ls ++ M)) E) := by
 rw [rowV_ne (sv_ne (show ls ++ M ≠ [] by simp [hM])), rowS_ne (sv_ne (show ls ++ M ≠ [] by simp [hM]))]
 rcases Classical.em (ls = []) with rfl | hne
 · have := hE rfl
   subst this
   have := h1 rfl
   simpa [rowS, rowV, sv] using this
 · have := h2 hne
   rw [rowV_ne (sv_ne hne), rowS_ne (sv_ne hne)]
   simpa [sv] using this
theorem getm {α : Type} (f : α → AV) (l : List α) (a : AV) (M : List AV) : (l.map f ++ a :: M)[l.length]? = some a := by
 rw [List.getElem?_append_right (by simp)]; simp
theorem setm {α : Type} (f : α → AV) (l : List α) (a b : AV) (M : List AV) : (l.map f ++ a :: M).set l.length b = l.map f ++ b :: M := by
 rw [List.set_append_right _ _ (by simp)]; simp
theorem p32 : (1 ≤ 2 ^ 32) = True := by simp
theorem w1 : IntKind.i64.wrap 1 = 1 := by decide
theorem lays_plus (x k : Rex) (ho : x.op = 5) (hk : x.ks = [k]) (h : x.is = true) (ih : Lays k) : Lays x := by
 intro ls A E hE hb
 have hsz : x.size = k.size + 1 := by rw [size_eq, ho, size_kid hk]; rfl
 have hkl := lay_len ls.length k (is_kid h (by rw [hk]; simp))
 have hxl : lay ls.length x = lay ls.length k ++ [⟨2, 0, 0, 0, 0, ls.length, ((ls.length + (lay ls.length k).length : Nat) : Int) + 1⟩] := by rw [lay_eq, ho, hk]; rfl
 rw [hxl, av_eq, ho, hk, map_kid]
 have e3 : IntKind.i64.wrap (((ls.length + (lay ls.length k).length : Nat) : Int) + 1) = ((ls.length + (lay ls.length k).length : Nat) : Int) + 1 := wrapN (by omega) (by omega)
 have e4 : (ls.length + (lay ls.length k).length + 1 ≤ 2 ^ 32) = True := by simp; omega
 have e5 : (ls ++ lay ls.length k).length = ls.length + (lay ls.length k).length := List.length_append
 refine Ans.of_run t103 ?_
 simp -implicitDefEqProofs only [c103, r103, go_sem, O_lenv, lenA_row ls hE, lenA_sl, List.length_map]
 refine CO.intro' (ih ls A E hE (by omega)) (by rw [av_eq]; rfl) rfl ?_
 rcases Classical.em (ls ++ lay ls.length k = []) with hne | hne
 · have hls : ls = [] := (List.append_eq_nil_iff.1 hne).1
   have hE' := hE hls
   subst hls; subst hE'
   have hk0 : lay 0 k = [] := by simpa using hne
   have hk1 : lay ([] : List Stp).length k = [] := hk0
   have e6 : IntKind.i64.wrap (0 + 1) = 1 := by decide
   have e6' : IntKind.i64.wrap 1 = 1 := by decide
   rw [hne, hk1]
   rw [sv, List.map_nil, rowV_nil, rowS_nil]
   simp -implicitDefEqProofs only [go_sem, e6]
   refine Fini.ret2 (n := 0) rfl ?_ ?_
   · simp [rowV]; rfl
   · simp [rowS, Stp.av, e6']
 · have hne2 : ls ++ (lay ls.length k ++ [⟨2, 0, 0, 0, 0, ls.length, ((ls.length + (lay ls.length k).length : Nat) : Int) + 1⟩]) ≠ [] := by simp
   rw [rowV_ne (sv_ne hne), rowS_ne (sv_ne hne), rowV_ne (sv_ne hne2), rowS_ne (sv_ne hne2)]
   simp -implicitDefEqProofs only [go_sem, List.length_map, get_mid, set_mid, e5, e3, e4]
   refine Fini.ret2 (n := 0) rfl ?_ ?_
   · simp; rfl
   · simp [Stp.av]
theorem lays_star (x k : Rex) (ho : x.op = 4) (hk : x.ks = [k]) (h : x.is = true) (ih : Lays k) : Lays x := by
 intro ls A E hE hb
 have hsz : x.size = k.size + 2 := by rw [size_eq, ho, size_kid hk]; rfl
 have hkl := lay_len (ls.length + 1) k (is_kid h (by rw [hk]; simp))
 have hxl : lay ls.length x = ⟨2, 0, 0, 0, 0, (ls.length : Int) + 1, ((ls.length + 2 + (lay (ls.length + 1) k).length : Nat) : Int)⟩ :: (lay (ls.length + 1) k ++ [⟨3, 0, 0, 0, 0, ls.length, 0⟩]) := by rw [lay_eq, ho, hk]; rfl
 rw [hxl, av_eq, ho, hk, map_kid]
 have e3 : IntKind.i64.wrap ((ls.length : Int) + 1) = (ls.length : Int) + 1 := wrapN (by omega) (by omega)
 have e4 : (ls.length + 1 ≤ 2 ^ 32) = True := by simp; omega
 have hkid := (ih.own (ls ++ [⟨2, 0, 0, 0, 0, (ls.length : Int) + 1, 0⟩]) A E (by simp) (by simp; omega))
 have e5 : (ls ++ [(⟨2, 0, 0, 0, 0, (ls.length : Int) + 1, 0⟩ : Stp)]).length = ls.length + 1 := by simp
 rw [e5] at hkid
 generalize lay (ls.length + 1) k = K at hkid hkl ⊢
 refine row_intro hE (by simp) (fun hls => ?_) (fun hne => ?_)
 · have hE' := hE hls
   subst hls; subst hE'
   have e6 : (K.length + 2 ≤ 2 ^ 32) = True := by simp; omega
   have e7 : ((0 : Int) < ((K.length + 2 : Nat) : Int)) = True := by simp; omega
   have e8 : ([] : List Stp).length + 1 + K.length = K.length + 1 := by simp; omega
   rw [e8] at hkid
   refine Ans.of_run t103 ?_
   simp -implicitDefEqProofs only [c103, r103, go_sem, p32, w1, Int.toNat_zero]
   refine CD.intro' hkid ?_ ?_ ?_
   · rw [av_eq] <;> rfl
   · simp [Stp.av, sv]
   simp -implicitDefEqProofs only [go_sem, get_mid, set_mid, List.length_map, List.length_append, e6, e7, sv, Stp.av, Int.toNat_zero, Nat.add_assoc]
   refine Fini.ret2 (n := 0) rfl ?_ ?_
   · rfl
   · simp [Stp.av]; omega
 · have e6 : (ls.length + (K.length + 2) ≤ 2 ^ 32) = True := by simp; omega
   have e7 : ((ls.length : Int) < ((ls.length + (K.length + 2) : Nat) : Int)) = True := by simp; omega
   have e8 : ls.length + 1 + K.length = ls.length + (K.length + 1) := by omega
   rw [e8] at hkid
   refine Ans.of_run t103 ?_
   simp -implicitDefEqProofs only [c103, r103, go_sem, get_mid, set_mid, List.length_map, List.length_append, e4, e3, Int.toNat_zero]
   refine CD.intro' hkid ?_ ?_ ?_
   · rw [av_eq] <;> rfl
   · simp [Stp.av, sv]
   simp -implicitDefEqProofs only [go_sem, get_mid, set_mid, List.length_map, List.length_append, List.map_append, List.append_assoc, e6, e7, sv, Stp.av, Nat.add_assoc, getm, setm]
   refine Fini.ret2 (n := 0) rfl ?_ ?_
   · rfl
   · simp [Stp.av]; omega
theorem lays_maybe (x k : Rex) (ho : x.op = 6) (hk : x.ks = [k]) (h : x.is = true) (ih : Lays k) : Lays x := by
 intro ls A E hE hb
 have hsz : x.size = k.size + 1 := by rw [size_eq, ho, size_kid hk]; rfl
 have hkl := lay_len (ls.length + 1) k (is_kid h (by rw [hk]; simp))
 have hxl : lay ls.length x = ⟨2, 0, 0, 0, 0, (ls.length : Int) + 1, ((ls.length + 1 + (lay (ls.length + 1) k).length : Nat) : Int)⟩ :: lay (ls.length + 1) k := by rw [lay_eq, ho, hk]; rfl
 rw [hxl, av_eq, ho, hk, map_kid]
 have e3 : IntKind.i64.wrap ((ls.length : Int) + 1) = (ls.length : Int) + 1 := wrapN (by omega) (by omega)
 have e4 : (ls.length + 1 ≤ 2 ^ 32) = True := by simp; omega
 have hkid := (ih.own (ls ++ [⟨2, 0, 0, 0, 0, (ls.length : Int) + 1, 0⟩]) A E (by simp) (by simp; omega))
 have e5 : (ls ++ [(⟨2, 0, 0, 0, 0, (ls.length : Int) + 1, 0⟩ : Stp)]).length = ls.length + 1 := by simp
 rw [e5] at hkid
 generalize lay (ls.length + 1) k = K at hkid hkl ⊢
 refine row_intro hE (by simp) (fun hls => ?_) (fun hne => ?_)
 · have hE' := hE hls
   subst hls; subst hE'
   have e6 : (K.length + 1 ≤ 2 ^ 32) = True := by simp; omega
   have e7 : ((0 : Int) < ((K.length + 1 : Nat) : Int)) = True := by simp <;> omega
   have e8 : ([] : List Stp).length + 1 + K.length = K.length + 1 := by simp; omega
   rw [e8] at hkid
   refine Ans.of_run t103 ?_
   simp -implicitDefEqProofs only [c103, r103, go_sem, p32, w1, Int.toNat_zero]
   refine CD.intro' hkid ?_ ?_ ?_
   · rw [av_eq] <;> rfl
   · simp [Stp.av, sv]
   simp -implicitDefEqProofs only [go_sem, get_mid, set_mid, List.length_map, List.length_append, e6, e7, sv, Stp.av, Int.toNat_zero, Nat.add_assoc]
   refine Fini.ret2 (n := 0) rfl ?_ ?_
   · rfl
   · simp [Stp.av]; omega
 · have e6 : (ls.length + (K.length + 1) ≤ 2 ^ 32) = True := by simp; omega
   have e7 : ((ls.length : Int) < ((ls.length + (K.length + 1) : Nat) : Int)) = True := by simp; omega
   have e8 : ls.length + 1 + K.length = ls.length + (K.length + 1) := by omega
   rw [e8] at hkid
   refine Ans.of_run t103 ?_
   simp -implicitDefEqProofs only [c103, r103, go_sem, get_mid, set_mid, List.length_map, List.length_append, e4, e3, Int.toNat_zero]
   refine CD.intro' hkid ?_ ?_ ?_
   · rw [av_eq] <;> rfl
   · simp [Stp.av, sv]
   simp -implicitDefEqProofs only [go_sem, get_mid, set_mid, List.length_map, List.length_append, List.map_append, List.append_assoc, e6, e7, sv, Stp.av, Nat.add_assoc, getm, setm]
   refine Fini.ret2 (n := 0) rfl ?_ ?_
   · rfl
   · simp [Stp.av]; omega
end Go.Proofs.YtoadgajhkhejiaaGreat
namespace Go.Proofs.YtoadgajhkhejiaaGreat
open Go Go.Ab
set_option maxRecDepth 100000
namespace Rex
def preW : Nat → (Nat → Int) → List Rex → List Stp
 | _, _, [] => []
 | n, f, x :: xs => ⟨2, 0, 0, 0, 0, (n : Int) + 1, ((n + 2 + (lay (n + 1) x).length : Nat) : Int)⟩ :: (lay (n + 1) x ++ (⟨3, 0, 0, 0, 0, f 0, 0⟩ :: preW (n + 2 + (lay (n + 1) x).length) (fun t => f (t + 1)) xs))
def jmpW : Nat → List Rex → List Int
 | _, [] => []
 | n, x :: xs => ((n + 1 + (lay (n + 1) x).length : Nat) : Int) :: jmpW (n + 2 + (lay (n + 1) x).length) xs
theorem jmpW_len (n : Nat) (l : List Rex) : (jmpW n l).length = l.length := by
 induction l generalizing n with
 | nil => rfl
 | cons x xs ih => simp [jmpW, ih]
theorem preW_len (n : Nat) (f g : Nat → Int) (l : List Rex) : (preW n f l).length = (preW n g l).length := by
 induction l generalizing n f g with
 | nil => rfl
 | cons x xs ih => simp only [preW, List.length_cons, List.length_append, ih _ (fun t => f (t + 1)) (fun t => g (t + 1))]
theorem layW_pre (n : Nat) (fin : Int) (l : List Rex) (x : Rex) : layW n fin (l ++ [x]) = preW n (fun _ => fin) l ++ lay (n + (preW n (fun _ => 0) l).length) x := by
 induction l generalizing n with
 | nil => simp [layW, preW]
 | cons y ys ih =>
   rw [List.cons_append, layW]
   have : (ys ++ [x]).isEmpty = false := by simp
   rw [this]
   simp only [Bool.false_eq_true, if_false, preW, ih, List.cons_append, List.append_assoc, List.length_cons, List.length_append]
   rw [show n + 2 + (lay (n + 1) y).length + (preW (n + 2 + (lay (n + 1) y).length) (fun _ => 0) ys).length = n + ((lay (n + 1) y).length + ((preW (n + 2 + (lay (n + 1) y).length) (fun _ => 0) ys).length + 1) + 1) by omega]
theorem preW_snoc (n : Nat) (f : Nat → Int) (l : List Rex) (x : Rex) : preW n f (l ++ [x]) = preW n f l ++
  (⟨2, 0, 0, 0, 0, ((n + (preW n f l).length : Nat) : Int) + 1, ((n + (preW n f l).length + 2 + (lay (n + (preW n f l).length + 1) x).length : Nat) : Int)⟩ :: (lay (n + (preW n f l).length + 1) x ++ [⟨3, 0, 0, 0, 0, f l.length, 0⟩])) := by
 induction l generalizing n f with
 | nil => simp [preW]
 | cons y ys ih =>
   have e : n + 2 + (lay (n + 1) y).length + (preW (n + 2 + (lay (n + 1) y).length) (fun t => f (t + 1)) ys).length = n + ((lay (n + 1) y).length + ((preW (n + 2 + (lay (n + 1) y).length) (fun t => f (t + 1)) ys).length + 1) + 1) := by omega
   simp only [List.cons_append, preW, ih, List.append_assoc, List.length_cons, List.length_append, e]
theorem jmpW_snoc (n : Nat) (f : Nat → Int) (l : List Rex) (x : Rex) : jmpW n (l ++ [x]) = jmpW n l ++ [((n + (preW n f l).length + 1 + (lay (n + (preW n f l).length + 1) x).length : Nat) : Int)] := by
 induction l generalizing n f with
 | nil => simp [jmpW, preW]
 | cons y ys ih =>
   have e : n + 2 + (lay (n + 1) y).length + (preW (n + 2 + (lay (n + 1) y).length) (fun t => f (t + 1)) ys).length = n + ((lay (n + 1) y).length + ((preW (n + 2 + (lay (n + 1) y).length) (fun t => f (t + 1)) ys).length + 1) + 1) := by omega
   simp only [List.cons_append, jmpW, preW, ih _ (fun t => f (t + 1)), List.length_cons, List.length_append, e]
theorem jump_at (ls : List Stp) (f : Nat → Int) (l : List Rex) (T : List Stp) (i : Nat) (hi : i < l.length) : ∃ j : Nat, (jmpW ls.length l)[i]? = some (j : Int) ∧ j < (ls ++ preW ls.length f l).length ∧
  (ls ++ (preW ls.length f l ++ T))[j]? = some ⟨3, 0, 0, 0, 0, f i, 0⟩ ∧ ∀ v, (ls ++ (preW ls.length f l ++ T)).set j ⟨3, 0, 0, 0, 0, v, 0⟩ = ls ++ (preW ls.length (fun t => if t = i then v else f t) l ++ T) := by
 induction l generalizing ls f i with
 | nil => simp at hi
 | cons x xs ih =>
   cases i with
   | zero =>
     refine ⟨ls.length + 1 + (lay (ls.length + 1) x).length, by simp [jmpW], by simp [preW]; omega, ?_, fun v => ?_⟩
     · rw [preW, List.getElem?_append_right (by omega)]
       simp only [List.cons_append, List.append_assoc]
       rw [show ls.length + 1 + (lay (ls.length + 1) x).length - ls.length = (lay (ls.length + 1) x).length + 1 by omega, List.getElem?_cons_succ, List.getElem?_append_right (by omega)]
       simp
     · rw [preW, List.set_append_right _ _ (by omega)]
       simp only [List.cons_append, List.append_assoc]
       rw [show ls.length + 1 + (lay (ls.length + 1) x).length - ls.length = (lay (ls.length + 1) x).length + 1 by omega, List.set_cons_succ, List.set_append_right _ _ (by omega)]
       simp [preW]
   | succ i =>
     have e : ls.length + 2 + (lay (ls.length + 1) x).length = (ls ++ ((⟨2, 0, 0, 0, 0, (ls.length : Int) + 1, ((ls.length + 2 + (lay (ls.length + 1) x).length : Nat) : Int)⟩ : Stp) :: (lay (ls.length + 1) x ++ [(⟨3, 0, 0, 0, 0, f 0, 0⟩ : Stp)]))).length := by simp; omega
     obtain ⟨j, h1, h2, h3, h4⟩ := ih (ls ++ (⟨2, 0, 0, 0, 0, (ls.length : Int) + 1, ((ls.length + 2 + (lay (ls.length + 1) x).length : Nat) : Int)⟩ :: (lay (ls.length + 1) x ++ [⟨3, 0, 0, 0, 0, f 0, 0⟩]))) (fun t => f (t + 1)) i (by simpa using hi)
     rw [← e] at h1 h2 h3 h4
     refine ⟨j, by rw [jmpW]; simpa using h1, by simpa [preW] using h2, by simpa [preW] using h3, fun v => ?_⟩
     have := h4 v
     simp only [List.cons_append, List.append_assoc, List.nil_append] at this
     simp only [preW, List.cons_append, List.append_assoc, this]
     simp
end Rex
end Go.Proofs.YtoadgajhkhejiaaGreat
namespace Go.Proofs.YtoadgajhkhejiaaGreat
open Go Go.Ab
set_option maxRecDepth 100000
open Rex
theorem get_end (A E : St) (o p : Ob) : (A ++ o :: (E ++ [p]))[A.length + (E.length + 1)]? = some p := by
 rw [List.getElem?_append_right (by omega), show A.length + (E.length + 1) - A.length = E.length + 1 by omega, List.getElem?_cons_succ]; simp
theorem set_end (A E : St) (o p q : Ob) : (A ++ o :: (E ++ [p])).set (A.length + (E.length + 1)) q = A ++ o :: (E ++ [q]) := by
 rw [List.set_append_right _ _ (by omega), show A.length + (E.length + 1) - A.length = E.length + 1 by omega, List.set_cons_succ]; simp
def jr (J : List Int) : St := if J.isEmpty then [] else [.row 1 (J.map I)]
theorem jr_ne {J : List Int} (h : J ≠ []) : jr J = [.row 1 (J.map I)] := by simp [jr, h]
theorem Jcast {J : Env → St → Prop} {e e' : Env} {s s' : St} (h : J e s) (he : e' = e) (hs : s' = s) : J e' s' := by subst he; subst hs; exact h
theorem mapI_ne {J : List Int} (h : J ≠ []) : J.map I ≠ [] := by simpa using h
theorem preW_congr (n : Nat) (f g : Nat → Int) (l : List Rex) (h : ∀ t, t < l.length → f t = g t) : preW n f l = preW n g l := by
 induction l generalizing n f g with
 | nil => rfl
 | cons x xs ih =>
   have h0 := h 0 (by simp)
   rw [preW, preW, ih _ (fun t => f (t + 1)) (fun t => g (t + 1)) (fun t ht => h (t + 1) (by simpa using ht)), h0]
theorem bel_sv (n : Nat) (l : List Stp) : BelO n (.row 7 (sv l)) := by
 intro x hx
 simp only [sv, List.mem_map] at hx
 obtain ⟨s, _, rfl⟩ := hx
 refine .agg _ fun i hi => ?_
 have : ∀ y ∈ [I s.op, U s.a, U s.b, U s.c, U s.d, I s.x, I s.y], Bel n y := by
  intro y hy
  simp only [List.mem_cons, List.not_mem_nil, or_false] at hy
  rcases hy with rfl | rfl | rfl | rfl | rfl | rfl | rfl <;> exact .pl _
 exact this _ (List.getElem_mem hi)
theorem ways_ans (xs : List Rex) (z : Rex) (hK : ∀ k ∈ xs ++ [z], k.is = true ∧ Lays k) (ls : List Stp) (A E : St) (hE : ls = [] → E = []) (hb : (ls.length : Int) + (sizeL (xs ++ [z]) + 2 * (xs.length : Int)) ≤ 1000) (hx : xs.length ≤ 1000) :
  Ans Tryz.prog 115 [rowV A.length (sv ls), .sl 6 ((xs ++ [z]).map av)] (rowS 7 A (sv ls) E)
   (rowV A.length (sv (ls ++ layW ls.length ((ls.length + (layW ls.length 0 (xs ++ [z])).length : Nat) : Int) (xs ++ [z]))))
   (rowS 7 A (sv (ls ++ layW ls.length ((ls.length + (layW ls.length 0 (xs ++ [z])).length : Nat) : Int) (xs ++ [z]))) E) := by
 have hget : ∀ i (hi : i < xs.length), (xs.map av)[i]? = some (.agg [I (xs[i]).op, U (xs[i]).a, U (xs[i]).b, U (xs[i]).c, U (xs[i]).d, .sl 6 ((xs[i]).ks.map av)]) := fun i hi => by simp [hi, ← av_eq]
 have hlenp : ∀ l : List Rex, (∀ k ∈ l, k.is = true) → ∀ n f, ((preW n f l).length : Int) = sizeL l + 2 * (l.length : Int) := by
  intro l
  induction l with
  | nil => intro _ n f; simp [preW, sizeL]
  | cons k l ih =>
    intro hl n f
    have h1 := lay_len (n + 1) k (hl k (by simp))
    have h2 := ih (fun k hk => hl k (by simp [hk])) (n + 2 + (lay (n + 1) k).length) (fun t => f (t + 1))
    simp only [preW, sizeL, List.length_cons, List.length_append]; omega
 have hnn : ∀ l : List Rex, (∀ k ∈ l, k.is = true) → 0 ≤ sizeL l := by
  intro l
  induction l with
  | nil => intro _; simp [sizeL]
  | cons k l ih =>
    intro hl
    have h1 := lay_len 0 k (hl k (by simp))
    have h2 := ih fun k hk => hl k (by simp [hk])
    simp only [sizeL]; omega
 have hxs : ∀ k ∈ xs, k.is = true := fun k hk => (hK k (by simp [hk])).1
 have hz := (hK z (by simp)).1
 have hzn := lay_len 0 z hz
 have hsum : sizeL (xs ++ [z]) = sizeL xs + z.size := by rw [sizeL_append]; simp [sizeL]
 have htake : ∀ i (hi : i < xs.length), sizeL (xs.take i) + (xs[i]).size ≤ sizeL xs := by
  intro i hi
  have e : xs = xs.take (i + 1) ++ xs.drop (i + 1) := by simp
  have h2 := hnn (xs.drop (i + 1)) fun k hk => hxs k (List.mem_of_mem_drop hk)
  have h3 := sizeL_append (xs.take (i + 1)) (xs.drop (i + 1))
  rw [← e] at h3
  have h4 := sizeL_take xs i hi
  omega
 have e0 : ((xs ++ [z]).length : Int) - 1 = xs.length := by simp
 have e1 : IntKind.i64.wrap (((xs ++ [z]).length : Int) - 1) = (xs.length : Int) := by rw [e0]; exact wrapN (by omega) (by omega)
 have e2 : (0 ≤ (xs.length : Int)) = True := by simp
 have e3 : ((xs.length : Int) ≤ ((xs ++ [z]).length : Nat)) = True := by simp; omega
 have e4 : (((xs ++ [z]).map av).take xs.length) = xs.map av := by simp
 refine Ans.of_run' t115 (fun hbel _ => ?_)
 simp -implicitDefEqProofs only [c115, r115, go_sem, O_lenv, lenA_sl, List.length_map, e1, e2, e3, e4]
 refine L.count xs.length (fun i => mkE 69 [(0, rowV A.length (sv (ls ++ preW ls.length (fun _ => 0) (xs.take i)))), (1, .sl 6 ((xs ++ [z]).map av)), (5, rowV (A.length + (E.length + 1)) ((jmpW ls.length (xs.take i)).map I)), (6, I xs.length), (17, .sl 6 (xs.map av)), (18, I xs.length), (19, I i)])
  (fun i => rowS 7 A (sv (ls ++ preW ls.length (fun _ => 0) (xs.take i))) (E ++ jr (jmpW ls.length (xs.take i)))) ?_ ?_ ?_ ?_
 · intro i hi Q hQ
   have f1 : ((i : Int) < (xs.length : Nat)) = True := by simp; omega
   have f2 : IntKind.i64.wrap ((i : Int) + 1) = ((i + 1 : Nat) : Int) := by rw [wrapN (by omega) (by omega)]; rfl
   have hi1 := htake i hi
   have hi2 := hlenp (xs.take i) (fun k hk => hxs k (List.mem_of_mem_take hk)) ls.length (fun _ => 0)
   have hil : (xs.take i).length = i := by simp; omega
   have hjl := jmpW_len ls.length (xs.take i)
   rw [hil] at hi2 hjl
   rw [List.take_succ_eq_append_getElem hi, preW_snoc, jmpW_snoc ls.length (fun _ => 0)] at hQ
   have hki := hK xs[i] (by simp)
   generalize preW ls.length (fun _ => 0) (xs.take i) = pr at hi2 hQ ⊢
   generalize jmpW ls.length (xs.take i) = J at hjl hQ ⊢
   have hkl := lay_len (ls.length + pr.length + 1) xs[i] hki.1
   rw [← List.append_assoc] at hQ
   have hkid : ∀ E', Ans Tryz.prog 103 [.osl A.length ((ls ++ pr).length + 1), xs[i].av] (A ++ .row 7 (sv ((ls ++ pr) ++ [⟨2, 0, 0, 0, 0, ((ls ++ pr).length : Int) + 1, 0⟩])) :: E') (.osl A.length ((ls ++ pr).length + ((lay (ls.length + pr.length + 1) xs[i]).length + 1)))
     (A ++ .row 7 (sv ((ls ++ pr) ++ [⟨2, 0, 0, 0, 0, ((ls ++ pr).length : Int) + 1, 0⟩] ++ lay (ls.length + pr.length + 1) xs[i])) :: E') := by
    intro E'
    have := hki.2.own ((ls ++ pr) ++ [⟨2, 0, 0, 0, 0, ((ls ++ pr).length : Int) + 1, 0⟩]) A E' (by simp) (by simp; omega)
    have e5 : ((ls ++ pr) ++ [(⟨2, 0, 0, 0, 0, ((ls ++ pr).length : Int) + 1, 0⟩ : Stp)]).length = ls.length + pr.length + 1 := by simp; omega
    have e6 : (ls ++ pr).length + ((lay (ls.length + pr.length + 1) xs[i]).length + 1) = ls.length + pr.length + 1 + (lay (ls.length + pr.length + 1) xs[i]).length := by simp; omega
    rw [e5] at this
    rw [e6]
    simpa using this
   have hpl : ls.length + pr.length = (ls ++ pr).length := by simp
   have hpi : i = 0 ∨ 0 < pr.length := by
    have : 0 ≤ sizeL (xs.take i) := hnn _ fun k hk => hxs k (List.mem_of_mem_take hk)
    omega
   have hEm : ls ++ pr = [] → E = [] := fun h => hE (List.append_eq_nil_iff.1 h).1
   have hb2 : ((ls ++ pr).length : Int) + (lay (ls.length + pr.length + 1) xs[i]).length + 2 ≤ 1000 := by simp; omega
   have hJi : ls ++ pr = [] → J = [] := by
    intro h
    have : pr.length = 0 := by rw [(List.append_eq_nil_iff.1 h).2]; rfl
    have : J.length = 0 := by omega
    simpa using this
   rw [hpl] at hQ hkid hb2
   clear hi1 hi2 hkl hpi hki hbel hpl
   generalize lay ((ls ++ pr).length + 1) xs[i] = K at hQ hkid hb2
   generalize ls ++ pr = M at hQ hkid hEm hJi hb2 ⊢
   have g1 : (M.length + 1 ≤ 2 ^ 32) = True := by simp; omega
   have g2 : IntKind.i64.wrap ((M.length : Int) + 1) = (M.length : Int) + 1 := wrapN (by omega) (by omega)
   have g3 : (M.length + (K.length + 2) ≤ 2 ^ 32) = True := by simp; omega
   have g4 : ((M.length : Int) < ((M.length + (K.length + 2) : Nat) : Int)) = True := by simp; omega
   have g5 : (J.length + 1 ≤ 2 ^ 32) = True := by simp; omega
   have m1 : M ++ ⟨2, 0, 0, 0, 0, (M.length : Int) + 1, ((M.length + 2 + K.length : Nat) : Int)⟩ :: (K ++ [⟨3, 0, 0, 0, 0, 0, 0⟩]) ≠ [] := by simp
   rw [rowV_ne (sv_ne m1), rowV_ne (mapI_ne (J := J ++ [((M.length + 1 + K.length : Nat) : Int)]) (by simp)), rowS_ne (sv_ne m1), jr_ne (J := J ++ [((M.length + 1 + K.length : Nat) : Int)]) (by simp)] at hQ
   rcases Classical.em (M = []) with hM | hM
   · have hJ0 := hJi hM
     have hE0 := hEm hM
     subst hM; subst hJ0; subst hE0
     rw [show rowV A.length (sv []) = .nils from rfl, show rowS 7 A (sv []) ([] ++ jr []) = A from rowS_nil 7 A, show rowV (A.length + (([] : St).length + 1)) (List.map I []) = .nils from rfl]
     simp -implicitDefEqProofs only [mkE, go_sem, f1, f2, hget i hi, List.length_map, p32, w1, List.append_nil]
     refine CD.intro' (hkid []) ?_ ?_ ?_
     · rw [av_eq] <;> rfl
     · simp [Stp.av, sv]
     have g6 : (K.length + 2 ≤ 2 ^ 32) = True := by simp; omega
     have g7 : ((0 : Int) < ((K.length + 2 : Nat) : Int)) = True := by simp; omega
     simp -implicitDefEqProofs only [go_sem, f2, p32, get_mid, set_mid, List.length_map, List.length_append, List.map_append, List.append_assoc, sv, Stp.av, Nat.add_assoc, getm, setm, g6, g7, Int.toNat_zero]
     refine Jcast hQ ?_ ?_
     · simp -implicitDefEqProofs only [mkE, go_sem, sv, List.length_map, List.length_append, List.map_append, Nat.add_assoc]
       done
     · simp [Stp.av] <;> omega
   · rcases Classical.em (J = []) with hJ0 | hJ0
     · subst hJ0
       rw [rowV_ne (sv_ne hM), rowS_ne (sv_ne hM), show rowV (A.length + (E.length + 1)) (List.map I []) = .nils from rfl, show jr [] = [] from rfl]
       simp -implicitDefEqProofs only [mkE, go_sem, f1, f2, hget i hi, List.length_map, get_mid, set_mid, g1, g2]
       refine CD.intro' (hkid E) ?_ ?_ ?_
       · rw [av_eq] <;> rfl
       · simp [Stp.av, sv]
       simp -implicitDefEqProofs only [go_sem, f2, p32, get_mid, set_mid, get_end, set_end, List.length_map, List.length_append, List.map_append, List.append_assoc, sv, Stp.av, Nat.add_assoc, getm, setm, g3, g4]
       refine Jcast hQ ?_ ?_
       · simp -implicitDefEqProofs only [mkE, go_sem, sv, List.length_map, List.length_append, List.map_append, Nat.add_assoc]
         done
       · simp [Stp.av] <;> omega
     · rw [rowV_ne (sv_ne hM), rowS_ne (sv_ne hM), rowV_ne (mapI_ne hJ0), jr_ne hJ0]
       simp -implicitDefEqProofs only [mkE, go_sem, f1, f2, hget i hi, List.length_map, get_mid, set_mid, get_end, set_end, g1, g2]
       refine CD.intro' (hkid (E ++ [.row 1 (J.map I)])) ?_ ?_ ?_
       · rw [av_eq] <;> rfl
       · simp [Stp.av, sv]
       simp -implicitDefEqProofs only [go_sem, f2, get_mid, set_mid, get_end, set_end, List.length_map, List.length_append, List.map_append, List.append_assoc, sv, Stp.av, Nat.add_assoc, getm, setm, g3, g4, g5]
       refine Jcast hQ ?_ ?_
       · simp -implicitDefEqProofs only [mkE, go_sem, sv, List.length_map, List.length_append, List.map_append, Nat.add_assoc]
         done
       · simp [Stp.av] <;> omega
 · intro Q
   have f1 : (((xs.length : Nat) : Int) < (xs.length : Nat)) = False := by simp
   have f3 : (List.map av (xs ++ [z]))[xs.length]? = some (.agg [I z.op, U z.a, U z.b, U z.c, U z.d, .sl 6 (z.ks.map av)]) := by rw [List.map_append, List.getElem?_append_right (by simp)]; simp [← av_eq]
   simp -implicitDefEqProofs only [mkE, go_sem, f1, Int.toNat_natCast, f3]
   have hpl := hlenp xs hxs ls.length (fun _ => 0)
   have hxn := hnn xs hxs
   have hLe : ls ++ preW ls.length (fun _ => 0) xs = [] → xs = [] := by
    intro h
    have : (preW ls.length (fun _ => 0) xs).length = 0 := by rw [(List.append_eq_nil_iff.1 h).2]; rfl
    have : xs.length = 0 := by omega
    simpa using this
   have hzl := lay_len (ls.length + (preW ls.length (fun _ => 0) xs).length) z hz
   have hkid := (hK z (by simp)).2 (ls ++ preW ls.length (fun _ => 0) xs) A (E ++ jr (jmpW ls.length xs)) (fun h => by
    have h1 := hLe h
    have h2 := hE (List.append_eq_nil_iff.1 h).1
    subst h1; subst h2; rfl) (by simp; omega)
   rw [List.length_append] at hkid
   rw [List.take_length]
   refine CO.intro' hkid (by rw [av_eq]) rfl ?_
   rw [layW_pre, layW_pre, List.length_append]
   have hfin : (preW ls.length (fun _ => 0) xs).length = (preW ls.length (fun _ => ((ls.length + ((preW ls.length (fun _ => 0) xs).length + (lay (ls.length + (preW ls.length (fun _ => 0) xs).length) z).length) : Nat) : Int)) xs).length := preW_len _ _ _ _
   rcases Classical.em (xs = []) with hx0 | hx0
   · subst hx0
     simp only [preW, jmpW, List.map_nil, List.append_nil, List.nil_append, List.length_nil, Nat.add_zero, jr, List.isEmpty_nil, if_true]
     rw [rowV_nil]
     simp -implicitDefEqProofs only [go_sem, O_lenv, lenA]
     refine L.count 0 (fun i => mkE 69 [(0, rowV A.length (sv (ls ++ lay ls.length z))), (55, .nils), (56, I 0), (57, I 0)]) (fun _ => rowS 7 A (sv (ls ++ lay ls.length z)) E) ?_ ?_ ?_ ?_
     · intro i hi; omega
     · intro Q
       simp -implicitDefEqProofs only [mkE, go_sem]
       exact Fini.ret rfl
     · simp [mkE]
     · rfl
   · have hJ0 : jmpW ls.length xs ≠ [] := by
      intro h
      have := jmpW_len ls.length xs
      rw [h] at this
      exact hx0 (by simpa using this.symm)
     have hne : ls ++ preW ls.length (fun _ => 0) xs ≠ [] := fun h => hx0 (hLe h)
     have hJl := jmpW_len ls.length xs
     have hat := fun f i hi => jump_at ls f xs (lay (ls.length + (preW ls.length (fun _ => 0) xs).length) z) i hi
     have hplen := fun f => preW_len ls.length f (fun _ => 0) xs
     have hpc : ∀ fin : Int, preW ls.length (fun t => if t < xs.length then fin else 0) xs = preW ls.length (fun _ => fin) xs := fun fin => preW_congr _ _ _ _ fun t ht => by simp [ht]
     rw [List.append_assoc]
     generalize hT : lay (ls.length + (preW ls.length (fun _ => 0) xs).length) z = T at *
     have hn : ∀ f, (ls ++ (preW ls.length f xs ++ T)).length = ls.length + ((preW ls.length (fun _ => 0) xs).length + T.length) := by
      intro f
      simp [hplen f]
     generalize hN : ls.length + ((preW ls.length (fun _ => 0) xs).length + T.length) = N at *
     have hne2 : ∀ f, ls ++ (preW ls.length f xs ++ T) ≠ [] := by
      intro f h
      have h1 := congrArg List.length h
      rw [hn] at h1
      have : xs.length ≠ 0 := by simpa using hx0
      simp at h1
      omega
     rw [rowV_ne (sv_ne (hne2 _)), rowS_ne (sv_ne (hne2 _)), rowV_ne (sv_ne (hne2 _)), rowS_ne (sv_ne (hne2 _)), jr_ne hJ0, rowV_ne (mapI_ne hJ0)]
     have hsn : ∀ f, (sv (ls ++ (preW ls.length f xs ++ T))).length = N := fun f => by rw [List.length_map, hn]
     rw [hsn, hsn, List.length_map, hJl]
     simp -implicitDefEqProofs only [go_sem, get_end, get_mid, List.length_map, hJl]
     refine L.count xs.length (fun i => mkE 69 [(0, .osl A.length N), (55, .osl (A.length + (E.length + 1)) xs.length), (56, I xs.length), (57, I i)])
      (fun i => A ++ .row 7 (sv (ls ++ (preW ls.length (fun t => if t < i then (N : Int) else 0) xs ++ T))) :: (E ++ [.row 1 ((jmpW ls.length xs).map I)])) ?_ ?_ ?_ ?_
     · intro i hi Q hQ
       have g1 : ((i : Int) < (xs.length : Nat)) = True := by simp; omega
       have g2 : IntKind.i64.wrap ((i : Int) + 1) = ((i + 1 : Nat) : Int) := by rw [wrapN (by omega) (by omega)]; rfl
       obtain ⟨j, h1, h2, h3, h4⟩ := hat (fun t => if t < i then (N : Int) else 0) i hi
       have g3 : ((jmpW ls.length xs).map I)[i]? = some (I j) := by rw [List.getElem?_map, h1]; rfl
       have g4 : ((j : Int) < (N : Nat)) = True := by
        have := hn (fun t => if t < i then (N : Int) else 0)
        simp only [List.length_append] at h2 this
        simp; omega
       have g5 : (sv (ls ++ (preW ls.length (fun t => if t < i then (N : Int) else 0) xs ++ T)))[j]? = some (.agg [I 3, U 0, U 0, U 0, U 0, I (if i < i then (N : Int) else 0), I 0]) := by
        rw [List.getElem?_map, h3]; rfl
       have g6 : (sv (ls ++ (preW ls.length (fun t => if t < i then (N : Int) else 0) xs ++ T))).set j (.agg [I 3, U 0, U 0, U 0, U 0, I N, I 0]) = sv (ls ++ (preW ls.length (fun t => if t < i + 1 then (N : Int) else 0) xs ++ T)) := by
        have := h4 (N : Int)
        rw [show (fun t => if t = i then (N : Int) else if t < i then (N : Int) else 0) = fun t => if t < i + 1 then (N : Int) else 0 from by
         funext t
         by_cases ht : t = i
         · simp [ht]
         · by_cases ht2 : t < i
           · simp [ht, ht2, show t < i + 1 by omega]
           · simp [ht, ht2, show ¬ t < i + 1 by omega]] at this
        rw [← this]; unfold sv; rw [List.map_set]; rfl
       have g7 := hsn (fun t => if t < i then (N : Int) else 0)
       simp -implicitDefEqProofs only [mkE, go_sem, g1, g2, get_end, get_mid, set_mid, List.length_map, hJl, g3, g4, g5, g6, g7]
       exact hQ
     · intro Q
       have g1 : (((xs.length : Nat) : Int) < (xs.length : Nat)) = False := by simp
       simp -implicitDefEqProofs only [mkE, go_sem, g1]
       rw [hpc]
       refine Fini.trim2 (σ' := A ++ .row 7 (sv (ls ++ (preW ls.length (fun _ => (N : Int)) xs ++ T))) :: E) (ex := [.row 1 ((jmpW ls.length xs).map I)]) rfl (by simp) ?_ ?_ ?_
       · rcases Classical.em (ls = []) with h | h
         · have := hE h; subst h; subst this
           simp [rowS]
         · rw [rowS_ne (sv_ne h)]; simp
       · exact .osl _ _ (by simp)
       · intro o ho
         simp only [List.mem_append, List.mem_cons] at ho
         have hle : (rowS 7 A (sv ls) E).length ≤ (A ++ Ob.row 7 (sv (ls ++ (preW ls.length (fun _ => (N : Int)) xs ++ T))) :: E).length := by
          unfold rowS; split
          · simp
          · simp
         have hmem : o ∈ A ∨ o ∈ E → o ∈ rowS 7 A (sv ls) E := by
          intro h
          unfold rowS; split
          · simpa using h
          · simp; rcases h with h | h
            · exact .inl h
            · exact .inr (.inr h)
         rcases ho with ho | rfl | ho
         · exact BelO_mono (hbel o (hmem (.inl ho))) hle
         · exact bel_sv _ _
         · exact BelO_mono (hbel o (hmem (.inr ho))) hle
     · simp [mkE]
     · simp
 · simp [mkE, preW, jmpW, rowV_nil]
 · simp [preW, jmpW, jr]
end Go.Proofs.YtoadgajhkhejiaaGreat
namespace Go.Proofs.YtoadgajhkhejiaaGreat
open Go Go.Ab
set_option maxRecDepth 100000
open Rex
theorem lays_alt (x : Rex) (ho : x.op = 3) (h : x.is = true) (ih : ∀ k ∈ x.ks, Lays k) (hl : x.ks.length ≤ 1000) : Lays x := by
 intro ls A E hE hb
 obtain ⟨xs, z, hk⟩ : ∃ xs z, x.ks = xs ++ [z] := ⟨x.ks.dropLast, x.ks.getLast (is_some_kid h ho), (List.dropLast_concat_getLast _).symm⟩
 have hsz : x.size = sizeL x.ks + 2 * ((x.ks.length : Int) - 1) := by rw [size_eq, ho]; rfl
 rw [hk] at hsz hl
 have hw := ways_ans xs z (fun k hk' => ⟨is_kid h (by rw [hk]; exact hk'), ih k (by rw [hk]; exact hk')⟩) ls A E hE (by simp at hsz; omega) (by simp at hl; omega)
 have hxl : lay ls.length x = layW ls.length ((ls.length + (layW ls.length 0 (xs ++ [z])).length : Nat) : Int) (xs ++ [z]) := by rw [lay_eq, ho, hk]; rfl
 rw [hxl, av_eq, ho, hk]
 refine Ans.of_run t103 ?_
 simp -implicitDefEqProofs only [c103, r103, go_sem, O_lenv, lenA_row ls hE, List.length_map]
 refine CO.intro hw ?_
 simp -implicitDefEqProofs only [go_sem]
 exact Fini.ret rfl
theorem lays_all (x : Rex) (h : x.is = true) (hn : x.nodes ≤ 1000) : Lays x := by
 have hk := nodes_eq x
 have hl := len_nodes x.ks
 have ih : ∀ k ∈ x.ks, Lays k := by
  intro k hk'
  obtain ⟨i, hi, rfl⟩ := List.getElem_of_mem hk'
  have hni := nodes_get x.ks i hi
  exact lays_all x.ks[i] (is_kid h hk') (by omega)
 rcases is_ops h with h1 | h1 | h1 | h1 | h1 | h1
 · exact lays_set x h1
 · exact lays_seq x h1 h ih (by omega)
 · exact lays_alt x h1 h ih (by omega)
 · obtain ⟨k, hk⟩ := is_one_kid h (.inl h1)
   exact lays_star x k h1 hk h (ih k (by rw [hk]; simp))
 · obtain ⟨k, hk⟩ := is_one_kid h (.inr (.inl h1))
   exact lays_plus x k h1 hk h (ih k (by rw [hk]; simp))
 · obtain ⟨k, hk⟩ := is_one_kid h (.inr (.inr h1))
   exact lays_maybe x k h1 hk h (ih k (by rw [hk]; simp))
termination_by SizeOf.sizeOf x
decreasing_by exact lt_of_mem (List.getElem_mem _)
def Rex.made (x : Rex) : Option (List Stp) := if x.is = true ∧ x.size + 1 ≤ 40 then some (lay 0 x ++ [⟨4, 0, 0, 0, 0, 0, 0⟩]) else none
def madeV : Option (List Stp) → AV
 | some l => .tup [.sl 7 (sv l), Bo true]
 | none => .tup [.nils, Bo false]
theorem bel_res (n : Nat) (l : List Stp) : Bel n (.tup [.sl 7 (sv l), Bo true]) := by
 have h : ∀ y ∈ [AV.sl 7 (sv l), Bo true], Bel n y := by
  intro y hy
  simp only [List.mem_cons, List.not_mem_nil, or_false] at hy
  rcases hy with rfl | rfl
  · exact .sl _ _ fun j hj => bel_sv n l _ (List.getElem_mem hj)
  · exact .pl _
 exact .tup _ fun i hi => h _ (List.getElem_mem hi)
theorem make_ans (σ : St) (x : Rex) (hn : x.nodes ≤ 1000) : Ans Tryz.prog 90 [x.av] σ (madeV x.made) σ := by
 have hs := Size_ans σ x hn
 have hsb := size_le x
 rw [av_eq] at hs
 by_cases hx : x.is = true ∧ x.size + 1 ≤ 40
 · have hf : full x = x.size + 1 := by simp [full, hx.1]
   have hlen := lay_len 0 x hx.1
   have c1 : decide (x.size + 1 = 0) = false := by simp; omega
   have c1' : (x.size + 1 == 0) = false := by simp; omega
   have c2 : decide (40 < x.size + 1) = false := by simp; omega
   have hl := lays_all x hx.1 hn [] σ [] (fun _ => rfl) (by simp; omega)
   rw [List.nil_append, show rowV σ.length (sv []) = .nils from rfl, show rowS 7 σ (sv []) [] = σ from rowS_nil 7 σ] at hl
   rw [show ([] : List Stp).length = 0 from rfl] at hl
   rw [hf] at hs
   rw [Rex.made, if_pos hx, madeV]
   have hmade : Ans Tryz.prog 90 [.agg [I x.op, U x.a, U x.b, U x.c, U x.d, .sl 6 (x.ks.map av)]] σ (.tup [.sl 7 (sv (lay 0 x ++ [⟨4, 0, 0, 0, 0, 0, 0⟩])), Bo true]) σ := by
    refine Ans.of_run' t90 (fun hbel _ => ?_)
    simp -implicitDefEqProofs only [c90, r90, go_sem]
    refine CO.intro hs ?_
    simp -implicitDefEqProofs only [go_sem, c1, c1', c2]
    refine CO.intro' hl (by rw [av_eq]) rfl ?_
    rcases Classical.em (lay 0 x = []) with h0 | h0
    · rw [h0, show rowV σ.length (sv []) = .nils from rfl, show rowS 7 σ (sv []) [] = σ from rowS_nil 7 σ]
      simp -implicitDefEqProofs only [go_sem, p32, get_mid, set_mid]
      refine Fini.trim2 (σ' := σ) (ex := [.dead]) rfl rfl (Nat.le_refl _) ?_ hbel
      exact bel_res _ [⟨4, 0, 0, 0, 0, 0, 0⟩]
    · have g1 : ((lay 0 x).length + 1 ≤ 2 ^ 32) = True := by simp; omega
      rw [rowV_ne (sv_ne h0), rowS_ne (sv_ne h0)]
      simp -implicitDefEqProofs only [go_sem, get_mid, set_mid, List.length_map, List.length_append, g1]
      have hb := bel_res σ.length (lay 0 x ++ [⟨4, 0, 0, 0, 0, 0, 0⟩])
      rw [show sv (lay 0 x ++ [⟨4, 0, 0, 0, 0, 0, 0⟩]) = sv (lay 0 x) ++ [Stp.av ⟨4, 0, 0, 0, 0, 0, 0⟩] from List.map_append] at hb ⊢
      refine Fini.trim2 (σ' := σ) (ex := [.dead]) rfl rfl (Nat.le_refl _) ?_ hbel
      exact hb
   rw [av_eq]
   exact hmade
 · rw [Rex.made, if_neg hx, madeV, av_eq]
   refine Ans.of_run t90 ?_
   simp -implicitDefEqProofs only [c90, r90, go_sem]
   refine CO.intro hs ?_
   by_cases h0 : x.is = true
   · have hf : full x = x.size + 1 := by simp [full, h0]
     have hlen := lay_len 0 x h0
     have c1 : decide (x.size + 1 = 0) = false := by simp; omega
     have c1' : (x.size + 1 == 0) = false := by simp; omega
     have c2 : decide (40 < x.size + 1) = true := by
      simp; rcases Int.lt_or_le 40 (x.size + 1) with h | h
      · exact h
      · exact absurd ⟨h0, h⟩ hx
     rw [hf]
     simp -implicitDefEqProofs only [go_sem, c1, c1', c2]
     exact Fini.ret rfl
   · have hf : full x = 0 := by simp [full, h0]
     rw [hf]
     simp -implicitDefEqProofs only [go_sem]
     exact Fini.ret rfl
end Go.Proofs.YtoadgajhkhejiaaGreat
namespace Go.Proofs.YtoadgajhkhejiaaGreat
open Go Go.Ab
set_option maxRecDepth 100000
abbrev B8 (n : Int) : AV := .pl (.int .u8 n)
abbrev pob (s : ByteArray) (at_ : Nat) (bad : Bool) : Ob := .box [Sx s, I at_, Bo bad]
def byteAt (s : ByteArray) (a : Nat) : Nat := (s.data.toList.getD a 0).toNat
theorem byteAt_def (s : ByteArray) (a : Nat) : (s.data.toList.getD a 0).toNat = byteAt s a := rfl
theorem byteAt_lt (s : ByteArray) (a : Nat) : byteAt s a < 256 := (s.data.toList.getD a 0).toNat_lt
theorem beq_cast (a b : Nat) : ((a : Int) == (b : Int)) = (a == b) := by
 rw [Bool.eq_iff_iff]; simp only [beq_iff_eq]; omega
theorem set_same {σ : St} {p : Nat} {o : Ob} (h : σ[p]? = some o) : σ.set p o = σ := by
 apply List.ext_getElem?
 intro i
 rw [List.getElem?_set]
 split
 · rename_i e; subst e
   have : p < σ.length := (List.getElem?_eq_some_iff.1 h).1
   simp only [this, if_true, h]
 · rfl
theorem wrap_nat {n : Nat} (h : n ≤ 4294967296) : IntKind.i64.wrap ((n : Int) + 1) = ((n + 1 : Nat) : Int) := by
 simp only [IntKind.wrap, IntKind.bits, IntKind.signed]; simp; omega
def over (s : ByteArray) (a : Nat) (bad : Bool) : Bool := bad || decide (s.size ≤ a)
def sees (s : ByteArray) (a : Nat) (bad : Bool) (c : Nat) : Bool := !over s a bad && (byteAt s a == c)
def nextA (s : ByteArray) (a : Nat) (bad : Bool) (c : Nat) : Nat := if sees s a bad c then a + 1 else a
def pbyte (s : ByteArray) (a : Nat) (bad : Bool) : Nat × Nat × Bool := if over s a bad then (0, a, true) else (byteAt s a, a + 1, bad)
def signs : List Nat := [124, 42, 43, 63, 40, 41, 91, 93, 46, 92, 94, 45]
def within : List Nat := [92, 93, 91, 94, 45]
def psign (s : ByteArray) (a : Nat) (bad : Bool) : Nat × Nat × Bool :=
 ((pbyte s a bad).1, (pbyte s a bad).2.1, (pbyte s a bad).2.2 || !signs.contains (pbyte s a bad).1)
def pmember (s : ByteArray) (a : Nat) (bad : Bool) : Nat × Nat × Bool :=
 if (pbyte s a bad).1 == 92 then psign s (pbyte s a bad).2.1 (pbyte s a bad).2.2
 else ((pbyte s a bad).1, (pbyte s a bad).2.1, (pbyte s a bad).2.2 || within.contains (pbyte s a bad).1)
theorem over_lt {s : ByteArray} {a : Nat} {bad : Bool} (h : over s a bad = false) : a < s.size := by
 simp [over] at h; omega
theorem pbyte_lt (s : ByteArray) (a : Nat) (bad : Bool) : (pbyte s a bad).1 < 256 := by
 unfold pbyte; split
 · show 0 < 256; decide
 · exact byteAt_lt s a
theorem pmember_lt (s : ByteArray) (a : Nat) (bad : Bool) : (pmember s a bad).1 < 256 := by
 unfold pmember; split
 · exact pbyte_lt _ _ _
 · exact pbyte_lt _ _ _
section
variable (σ : St) (p : Nat) (s : ByteArray) (a : Nat) (bad : Bool)
theorem over_ans (h : σ[p]? = some (pob s a bad)) : Ans Tryz.prog 109 [.ptr p 0] σ (Bo (over s a bad)) σ := by
 refine Ans.of_run t109 ?_
 cases bad <;> simp -implicitDefEqProofs only [c109, r109, h, go_sem]
 · refine Fini.ret ?_
   simp -implicitDefEqProofs only [go_sem, over, Bool.false_or, Int.ofNat_le]
   rfl
 · exact Fini.ret rfl
theorem sees_ans (c : Nat) (h : σ[p]? = some (pob s a bad)) : Ans Tryz.prog 110 [.ptr p 0, B8 c] σ (Bo (sees s a bad c)) σ := by
 refine Ans.of_run t110 ?_
 simp -implicitDefEqProofs only [c110, r110, h, go_sem]
 refine CD.intro (over_ans σ p s a bad h) ?_
 cases hb : over s a bad
 · have hlt := over_lt hb
   have h1 : (a : Int) < s.size := by omega
   simp -implicitDefEqProofs only [go_sem, h, h1, byteAt_def]
   refine Fini.ret ?_
   simp -implicitDefEqProofs only [go_sem, sees, hb, beq_cast]
   rfl
 · simp -implicitDefEqProofs only [go_sem, h]
   refine Fini.ret ?_
   simp -implicitDefEqProofs only [go_sem, sees, hb, Bool.false_and]
   rfl
theorem next_ans (c : Nat) (hs : bad = true ∨ s.size ≤ 40) (h : σ[p]? = some (pob s a bad)) : Ans Tryz.prog 98 [.ptr p 0, B8 c] σ (Bo (sees s a bad c)) (σ.set p (pob s (nextA s a bad c) bad)) := by
 refine Ans.of_run t98 ?_
 simp -implicitDefEqProofs only [c98, r98, h, go_sem]
 refine CO.intro (sees_ans σ p s a bad c h) ?_
 unfold nextA
 cases hb : sees s a bad c
 · simp -implicitDefEqProofs only [go_sem]
   rw [set_same h]
   exact Fini.ret rfl
 · have hlt : a < s.size := by
    simp [sees] at hb; exact over_lt hb.1
   have hsz : s.size ≤ 40 := by
    rcases hs with rfl | hs
    · simp [sees, over] at hb
    · exact hs
   simp -implicitDefEqProofs only [go_sem, h, wrap_nat (show a ≤ 4294967296 by omega)]
   exact Fini.ret rfl
theorem byte_ans (hs : bad = true ∨ s.size ≤ 40) (h : σ[p]? = some (pob s a bad)) : Ans Tryz.prog 125 [.ptr p 0] σ (B8 (pbyte s a bad).1) (σ.set p (pob s (pbyte s a bad).2.1 (pbyte s a bad).2.2)) := by
 refine Ans.of_run t125 ?_
 simp -implicitDefEqProofs only [c125, r125, h, go_sem]
 refine CO.intro (over_ans σ p s a bad h) ?_
 unfold pbyte
 cases hb : over s a bad
 · have hlt := over_lt hb
   have hsz : s.size ≤ 40 := by
    rcases hs with rfl | hs
    · simp [over] at hb
    · exact hs
   have h1 : (a : Int) < s.size := by omega
   have h2 : IntKind.i64.wrap (((a + 1 : Nat) : Int) - 1) = (a : Int) := by
    simp only [IntKind.wrap, IntKind.bits, IntKind.signed]; simp; omega
   simp -implicitDefEqProofs only [go_sem, h, get_set_eq h, wrap_nat (show a ≤ 4294967296 by omega), h1, h2, byteAt_def]
   exact Fini.ret rfl
 · simp -implicitDefEqProofs only [go_sem, h, get_set_eq h]
   exact Fini.ret rfl
theorem idx60 (t : ByteArray) (c : Nat) : Ans Tryz.prog 140 [Sx t, B8 c] σ (I (firstIdx t c.toUInt8)) σ := idx_ok _ _ _ _ rfl
theorem byteidx_ans (t : ByteArray) (c : Nat) : Ans Tryz.prog 130 [Sx t, B8 c] σ (I (firstIdx t c.toUInt8)) σ := by
 have h58 : Ans Tryz.prog 138 [Sx t, B8 c] σ (I (firstIdx t c.toUInt8)) σ := by
  refine Ans.of_run t138 ?_
  simp -implicitDefEqProofs only [c138, r138, go_sem]
  refine CO.intro (idx60 σ t c) ?_
  simp -implicitDefEqProofs only [go_sem]
  exact Fini.ret rfl
 refine Ans.of_run t130 ?_
 simp -implicitDefEqProofs only [c130, r130, go_sem]
 refine CO.intro h58 ?_
 simp -implicitDefEqProofs only [go_sem]
 exact Fini.ret rfl
theorem signs_idx : ∀ c : Nat, c < 256 → decide (firstIdx (ByteArray.mk #[124, 42, 43, 63, 40, 41, 91, 93, 46, 92, 94, 45]) c.toUInt8 < 0) = !signs.contains c := by decide +kernel
theorem within_idx : ∀ c : Nat, c < 256 → decide (0 ≤ firstIdx (ByteArray.mk #[92, 93, 91, 94, 45]) c.toUInt8) = within.contains c := by decide +kernel
def stray : List Nat := [42, 43, 63, 93]
theorem stray_idx : ∀ c : Nat, c < 256 → decide (0 ≤ firstIdx (ByteArray.mk #[42, 43, 63, 93]) c.toUInt8) = stray.contains c := by decide +kernel
theorem sign_ans (hs : bad = true ∨ s.size ≤ 40) (h : σ[p]? = some (pob s a bad)) : Ans Tryz.prog 129 [.ptr p 0] σ (B8 (psign s a bad).1) (σ.set p (pob s (psign s a bad).2.1 (psign s a bad).2.2)) := by
 have hc := signs_idx _ (pbyte_lt s a bad)
 unfold psign
 refine Ans.of_run t129 ?_
 simp -implicitDefEqProofs only [c129, r129, h, go_sem]
 refine CO.intro (byte_ans σ p s a bad hs h) ?_
 generalize pbyte s a bad = q at hc ⊢
 obtain ⟨c, a', b'⟩ := q
 have hg : (σ.set p (pob s a' b'))[p]? = some (pob s a' b') := get_set_eq h _
 cases b' with
 | true =>
   simp -implicitDefEqProofs only [go_sem, hg, List.set_set]
   exact Fini.ret rfl
 | false =>
   simp -implicitDefEqProofs only [go_sem, hg]
   refine CO.intro (byteidx_ans _ _ c) ?_
   simp -implicitDefEqProofs only [go_sem, hg, List.set_set]
   refine Fini.ret2 (n := 0) rfl rfl ?_
   rw [hc]; rfl
theorem member_ans (hs : bad = true ∨ s.size ≤ 40) (h : σ[p]? = some (pob s a bad)) : Ans Tryz.prog 137 [.ptr p 0] σ (B8 (pmember s a bad).1) (σ.set p (pob s (pmember s a bad).2.1 (pmember s a bad).2.2)) := by
 have hc := within_idx _ (pbyte_lt s a bad)
 have hs' : (pbyte s a bad).2.2 = true ∨ s.size ≤ 40 := by
  unfold pbyte; split
  · exact .inl rfl
  · exact hs
 unfold pmember
 refine Ans.of_run t137 ?_
 simp -implicitDefEqProofs only [c137, r137, h, go_sem]
 refine CO.intro (byte_ans σ p s a bad hs h) ?_
 generalize pbyte s a bad = q at hc hs' ⊢
 obtain ⟨c, a', b'⟩ := q
 have hg : (σ.set p (pob s a' b'))[p]? = some (pob s a' b') := get_set_eq h _
 have hc92 : ((c : Int) == 92) = (c == 92) := beq_cast c 92
 cases h92 : c == 92 with
 | true =>
   simp -implicitDefEqProofs only [go_sem, hc92, h92]
   refine CO.intro (sign_ans _ p s a' b' hs' hg) ?_
   simp -implicitDefEqProofs only [go_sem, List.set_set]
   exact Fini.ret rfl
 | false =>
   simp -implicitDefEqProofs only [go_sem, hc92, h92]
   cases b' with
   | true =>
     simp -implicitDefEqProofs only [go_sem, hg, List.set_set]
     exact Fini.ret rfl
   | false =>
     simp -implicitDefEqProofs only [go_sem, hg]
     refine CO.intro (byteidx_ans _ _ c) ?_
     simp -implicitDefEqProofs only [go_sem, hg, List.set_set]
     refine Fini.ret2 (n := 0) rfl rfl ?_
     rw [hc]; rfl
end
end Go.Proofs.YtoadgajhkhejiaaGreat
namespace Go.Proofs.YtoadgajhkhejiaaGreat
open Go Go.Ab
set_option maxRecDepth 100000
def orU (v w : Int) : Int := IntKind.u64.wrap (BitVec.ofInt IntKind.u64.bits v ||| BitVec.ofInt IntKind.u64.bits w).toNat
def bitU (r : Nat) : Int := IntKind.u64.wrap (1 * 2 ^ (min r IntKind.u64.bits))
def notU (v : Int) : Int := IntKind.u64.wrap (BitVec.ofInt IntKind.u64.bits (if IntKind.u64.signed then -1 else IntKind.u64.max) ^^^ BitVec.ofInt IntKind.u64.bits v).toNat
def setAdd (S : List Int) (c : Nat) : List Int := S.set (c / 64) (orU (S.getD (c / 64) 0) (bitU (c % 64)))
def addR (S : List Int) (f : Nat) : Nat → List Int
 | 0 => S
 | n + 1 => setAdd (addR S f n) (f + n)
theorem setAdd_len (S : List Int) (c : Nat) : (setAdd S c).length = S.length := by simp [setAdd]
theorem addR_len (S : List Int) (f n : Nat) : (addR S f n).length = S.length := by
 induction n with
 | zero => rfl
 | succ n ih => rw [addR, setAdd_len, ih]
theorem gA {σ : St} {p : Nat} (hp : p < σ.length) (o : Ob) (ex : St) : (σ.set p o ++ ex)[p]? = some o := by
 rw [List.getElem?_append_left (by simpa using hp)]; simp [hp]
theorem sA {σ : St} {p : Nat} (hp : p < σ.length) (o o' : Ob) (ex : St) : (σ.set p o ++ ex).set p o' = σ.set p o' ++ ex := by
 rw [List.set_append_left _ _ (by simpa using hp), List.set_set]
theorem gL0 (σ : St) (p : Nat) (o x : Ob) (ex : St) : (σ.set p o ++ x :: ex)[σ.length]? = some x := by
 rw [List.getElem?_append_right (by simp)]; simp
theorem sL0 (σ : St) (p : Nat) (o x y : Ob) (ex : St) : (σ.set p o ++ x :: ex).set σ.length y = σ.set p o ++ y :: ex := by
 rw [List.set_append_right _ _ (by simp)]; simp
theorem gL1 (σ : St) (p : Nat) (o x y : Ob) (ex : St) : (σ.set p o ++ x :: y :: ex)[σ.length + 1]? = some y := by
 rw [List.getElem?_append_right (by simp)]; simp
theorem sL1 (σ : St) (p : Nat) (o x y z : Ob) (ex : St) : (σ.set p o ++ x :: y :: ex).set (σ.length + 1) z = σ.set p o ++ x :: z :: ex := by
 rw [List.set_append_right _ _ (by simp)]; simp
theorem Fini.normal2 {n m : Nat} {rvs : List RV} {r r' : AV} {σ σ' : St} {env : Env} (h : resA env σ rvs = some r') (e : r' = r) (e' : σ = σ') : Fini m rvs r σ' .normal env σ := by
 subst e; subst e'; exact Fini.normal h
section
variable (σ : St)
theorem add_ans (l off : Nat) (cs : List AV) (c : Nat) (v : Int) (h : σ[l]? = some (.box cs)) (hv : cs[off + c / 64]? = some (U v)) (hc : c < 256) :
  Ans Tryz.prog 128 [.ptr l off, B8 c] σ (.tup []) (σ.set l (.box (cs.set (off + c / 64) (U (orU v (bitU (c % 64))))))) := by
 have hk : off + c / 64 < cs.length := (List.getElem?_eq_some_iff.1 hv).1
 have e1 : IntKind.u8.wrap ((c : Int).tdiv 64) = ((c / 64 : Nat) : Int) := by
  rw [show (c : Int).tdiv 64 = ((c / 64 : Nat) : Int) from rfl]
  simp only [IntKind.wrap, IntKind.bits, IntKind.signed]; simp; omega
 have e2 : (c : Int).tmod 64 = ((c % 64 : Nat) : Int) := rfl
 have e3 : ((64 : Int) = 0) = False := by simp
 have e4 : (((c / 64 : Nat) : Int) < (4 : Nat)) = True := by simp; omega
 have e5 : cs.drop (off + c / 64) = U v :: cs.drop (off + c / 64 + 1) := by
  rw [List.drop_eq_getElem_cons hk]
  have := (List.getElem?_eq_some_iff.1 hv).2
  rw [this]
 have e6 : (off + c / 64 + 1 ≤ cs.length) = True := by simp; omega
 have e7 : (1 ≤ (cs.drop (off + c / 64 + 1)).length + 1) = True := by simp
 refine Ans.of_run t128 ?_
 simp -implicitDefEqProofs only [c128, r128, go_sem, e1, e2, e3, e4, Nat.mul_one, h, e5, e6, e7, List.drop_succ_cons]
 have hset : cs.set (off + c / 64) (U (orU v (bitU (c % 64)))) = cs.take (off + c / 64) ++ [U (orU v (bitU (c % 64)))] ++ cs.drop (off + c / 64 + 1) := by
  rw [List.set_eq_take_append_cons_drop, if_pos hk]; simp
 rw [hset]
 exact Fini.normal2 (n := 0) rfl rfl rfl
def turnS (S : List Int) : List Int := S.map notU
theorem turned_ans (a b c d : Int) : Ans Tryz.prog 127 [.agg [U a, U b, U c, U d]] σ (.agg [U (notU a), U (notU b), U (notU c), U (notU d)]) σ := by
 have k0 : ∀ (x y : Ob), (σ ++ [x, y])[σ.length]? = some x := fun x y => by rw [List.getElem?_append_right (by simp)]; simp
 have k1 : ∀ (x y : Ob), (σ ++ [x, y])[σ.length + 1]? = some y := fun x y => by rw [List.getElem?_append_right (by simp)]; simp
 have s0 : ∀ (x y z : Ob), (σ ++ [x, y]).set σ.length z = σ ++ [z, y] := fun x y z => by rw [List.set_append_right _ _ (by simp)]; simp
 have s1 : ∀ (x y z : Ob), (σ ++ [x, y]).set (σ.length + 1) z = σ ++ [x, z] := fun x y z => by rw [List.set_append_right _ _ (by simp)]; simp
 have q1 : IntKind.i64.wrap (0 + 1) = 1 := by decide
 have q2 : IntKind.i64.wrap (1 + 1) = 2 := by decide
 have q3 : IntKind.i64.wrap (2 + 1) = 3 := by decide
 have q4 : IntKind.i64.wrap (3 + 1) = 4 := by decide
 have q5 : IntKind.i64.wrap 1 = 1 := by decide
 have q6 : IntKind.i64.wrap 2 = 2 := by decide
 have q7 : IntKind.i64.wrap 3 = 3 := by decide
 have q8 : IntKind.i64.wrap 4 = 4 := by decide
 have n1 : Int.toNat 1 = 1 := rfl
 have n2 : Int.toNat 2 = 2 := rfl
 have n3 : Int.toNat 3 = 3 := rfl
 have c4 : ((4 : Nat) : Int) = 4 := rfl
 refine Ans.of_run' t127 (fun hbel _ => ?_)
 simp -implicitDefEqProofs only [c127, r127, go_sem, List.append_assoc, List.length_append]
 refine L.count 4 (fun i => mkE 15 [(1, .ptr σ.length 0), (2, .ptr (σ.length + 1) 0), (4, I i)])
  (fun i => σ ++ [.box (match i with | 0 => [U a, U b, U c, U d] | 1 => [U (notU a), U b, U c, U d] | 2 => [U (notU a), U (notU b), U c, U d] | 3 => [U (notU a), U (notU b), U (notU c), U d] | _ => [U (notU a), U (notU b), U (notU c), U (notU d)]), .box [U 0, U 0, U 0, U 0]]) ?_ ?_ rfl rfl
 · intro i hi Q hQ
   match i, hi, hQ with
   | 0, _, hQ =>
     simp -implicitDefEqProofs only [mkE, go_sem, k0, k1, s0, s1, q1, q2, q3, q4, q5, q6, q7, q8, n1, n2, n3, c4, Int.toNat_zero, Int.cast_ofNat_Int, Int.natCast_one, Int.natCast_zero]
     exact hQ
   | 1, _, hQ =>
     simp -implicitDefEqProofs only [mkE, go_sem, k0, k1, s0, s1, q1, q2, q3, q4, q5, q6, q7, q8, n1, n2, n3, c4, Int.toNat_zero, Int.cast_ofNat_Int, Int.natCast_one, Int.natCast_zero]
     exact hQ
   | 2, _, hQ =>
     simp -implicitDefEqProofs only [mkE, go_sem, k0, k1, s0, s1, q1, q2, q3, q4, q5, q6, q7, q8, n1, n2, n3, c4, Int.toNat_zero, Int.cast_ofNat_Int, Int.natCast_one, Int.natCast_zero]
     exact hQ
   | 3, _, hQ =>
     simp -implicitDefEqProofs only [mkE, go_sem, k0, k1, s0, s1, q1, q2, q3, q4, q5, q6, q7, q8, n1, n2, n3, c4, Int.toNat_zero, Int.cast_ofNat_Int, Int.natCast_one, Int.natCast_zero]
     exact hQ
 · intro Q
   simp -implicitDefEqProofs only [mkE, go_sem, k0, k1, s0, s1, c4, Int.cast_ofNat_Int]
   refine Fini.trim2 (σ' := σ) (ex := [.box [U (notU a), U (notU b), U (notU c), U (notU d)], .box [U (notU a), U (notU b), U (notU c), U (notU d)]]) ?_ rfl (Nat.le_refl _) ?_ hbel
   · simp -implicitDefEqProofs only [go_sem, resA, allSome, rvA, oneOf, k1]
   · refine .agg _ fun i hi => ?_
     have : ∀ y ∈ [U (notU a), U (notU b), U (notU c), U (notU d)], Bel σ.length y := by
      intro y hy
      simp only [List.mem_cons, List.not_mem_nil, or_false] at hy
      rcases hy with rfl | rfl | rfl | rfl <;> exact .pl _
     exact this _ (List.getElem_mem hi)
end
end Go.Proofs.YtoadgajhkhejiaaGreat
namespace Go.Proofs.YtoadgajhkhejiaaGreat
open Go Go.Ab
set_option maxRecDepth 100000
def fuel : Nat := 2 ^ 64 + 1
theorem fuel_gt (b : BitVec 64) : 2 ^ 64 < b.toNat + fuel := by unfold fuel; omega
def pcomeF (ys : List Stp) (at_ : Nat) (b : BitVec 64) : BitVec 64 × BitVec 64 := pcome ys fuel at_ b
def pstart (ys : List Stp) : BitVec 64 := (pcomeF ys 0 0).1
theorem comeF_ans {ys : List Stp} (hc : pcheck ys = true) (at_ : Nat) (b : BitVec 64) (σ : St) (ha : at_ < ys.length) :
  Ans Tryz.prog 107 [.sl 7 (ys.map Stp.av), I at_, .ptr σ.length 0] (σ ++ [.box [W b]]) (W (pcomeF ys at_ b).1) (σ ++ [.box [W (pcomeF ys at_ b).2]]) := by
 obtain ⟨h1, _, h3⟩ := check_in hc
 have := come_ans ys h1 h3 fuel at_ b (σ ++ [.box [W b]]) σ.length (by simp) (fuel_gt b) ha
 have e : ∀ x : Ob, (σ ++ [Ob.box [W b]]).set σ.length x = σ ++ [x] := fun x => by simp
 rwa [e, e] at this
theorem start_ans {ys : List Stp} (hc : pcheck ys = true) (σ : St) : Ans Tryz.prog 94 [.sl 7 (ys.map Stp.av)] σ (W (pstart ys)) σ := by
 obtain ⟨h1, h2, h3⟩ := check_in hc
 refine Ans.of_run' t94 (fun hbel _ => ?_)
 simp -implicitDefEqProofs only [c94, r94, go_sem, get_mid, set_mid]
 have := comeF_ans hc 0 0 σ (by omega)
 refine CO.intro (this) ?_
 simp -implicitDefEqProofs only [go_sem]
 exact Fini.trim2 (σ' := σ) rfl rfl (Nat.le_refl _) (.pl _) hbel
def tstU (v : Int) (r : Nat) : Bool := IntKind.u64.wrap (BitVec.ofInt IntKind.u64.bits (v.fdiv (2 ^ (min ((r : Int)).toNat IntKind.u64.bits))) &&& BitVec.ofInt IntKind.u64.bits 1).toNat == 1
def setU (s : Stp) (k : Nat) : Int := [s.a, s.b, s.c, s.d].getD k 0
def takesS (s : Stp) (c : Nat) : Bool := s.op == 1 && tstU (setU s (c / 64)) (c % 64)
def stpAt (ys : List Stp) (i : Nat) : Stp := ys.getD i ⟨0, 0, 0, 0, 0, 0, 0⟩
theorem setU_get (s : Stp) (k : Nat) (h : k < 4) : ([I s.op, U s.a, U s.b, U s.c, U s.d, I s.x, I s.y] : List AV)[1 + k]? = some (U (setU s k)) := by
 rcases k with _ | _ | _ | _ | k
 · rfl
 · rfl
 · rfl
 · rfl
 · omega
def nextL (ys : List Stp) (now : BitVec 64) (c : Nat) : Nat → BitVec 64 × BitVec 64
 | 0 => (0, 0)
 | i + 1 => if now.getLsbD i && takesS (stpAt ys i) c then
     ((nextL ys now c i).1 ||| (pcomeF ys (i + 1) (nextL ys now c i).2).1, (pcomeF ys (i + 1) (nextL ys now c i).2).2)
   else nextL ys now c i
def pnext (ys : List Stp) (now : BitVec 64) (c : Nat) : BitVec 64 := (nextL ys now c ys.length).1
theorem op1_lt {ys : List Stp} (hc : pcheck ys = true) {i : Nat} (hi : i < ys.length) (h : (stpAt ys i).op = 1) : i + 1 < ys.length := by
 obtain ⟨_, h1, h2⟩ := check_in hc
 refine Nat.lt_of_le_of_ne hi fun e => ?_
 unfold pcheck at hc
 split at hc
 · cases hc
 split at hc
 · cases hc
 rw [List.getElem?_eq_getElem (show ys.length - 1 < ys.length by omega)] at hc
 simp only [Bool.and_eq_true] at hc
 have hr := hc.2
 have he : ys[ys.length - 1] = stpAt ys i := by
  have : i = ys.length - 1 := by omega
  subst this
  simp [stpAt, List.getD, hi]
 rw [he] at hr
 simp [rightS, h] at hr
theorem stpAt_get {ys : List Stp} {i : Nat} (hi : i < ys.length) : (ys.map Stp.av)[i]? = some (stpAt ys i).av := by simp [stpAt, List.getD, hi]
theorem bel_sx (n : Nat) (ys : List Stp) : Bel n (.sl 7 (ys.map Stp.av)) := by
 refine .sl 7 _ fun i hi => ?_
 have : ∀ y ∈ ys.map Stp.av, Bel n y := by
  intro y hy
  simp only [List.mem_map] at hy
  obtain ⟨s, _, rfl⟩ := hy
  refine .agg _ fun i hi => ?_
  have : ∀ y ∈ ([I s.op, U s.a, U s.b, U s.c, U s.d, I s.x, I s.y] : List AV), Bel n y := by
   intro y hy
   simp only [List.mem_cons, List.not_mem_nil, or_false] at hy
   rcases hy with rfl | rfl | rfl | rfl | rfl | rfl | rfl <;> exact .pl _
  exact this _ (List.getElem_mem hi)
 exact this _ (List.getElem_mem hi)
theorem mem7 (n : Nat) (s : Stp) : ∀ y ∈ ([I s.op, U s.a, U s.b, U s.c, U s.d, I s.x, I s.y] : List AV), Bel n y := by
 intro y hy
 simp only [List.mem_cons, List.not_mem_nil, or_false] at hy
 rcases hy with rfl | rfl | rfl | rfl | rfl | rfl | rfl <;> exact .pl _
theorem B_sx (n : Nat) (ys : List Stp) : Bel n (.sl 7 (ys.map Stp.av)) = True := eq_true (bel_sx n ys)
theorem B_st7 (n : Nat) (s : Stp) : Bel n (.agg [I s.op, U s.a, U s.b, U s.c, U s.d, I s.x, I s.y]) = True := eq_true (.agg _ fun i hi => mem7 n s _ (List.getElem_mem hi))
theorem B_rp7 (n : Nat) (s : Stp) : Bel n (.rp [I s.op, U s.a, U s.b, U s.c, U s.d, I s.x, I s.y]) = True := eq_true (.rp _ fun i hi => mem7 n s _ (List.getElem_mem hi))
theorem take1 (σ : St) (x : Ob) (ex : St) : (σ ++ x :: ex).take (σ.length + 1) = σ ++ [x] := by
 rw [show σ ++ x :: ex = (σ ++ [x]) ++ ex by simp, List.take_left' (by simp)]
theorem next_scan_ans {ys : List Stp} (hc : pcheck ys = true) (now : BitVec 64) (c : Nat) (hcc : c < 256) (σ : St) : Ans Tryz.prog 95 [.sl 7 (ys.map Stp.av), W now, .pl (.int .u8 c)] σ (W (pnext ys now c)) σ := by
 obtain ⟨h1_1, h2, h3⟩ := check_in hc
 have e1 : IntKind.u8.wrap ((c : Int).tdiv 64) = ((c / 64 : Nat) : Int) := by
  rw [show (c : Int).tdiv 64 = ((c / 64 : Nat) : Int) from rfl]
  simp only [IntKind.wrap, IntKind.bits, IntKind.signed]; simp; omega
 have e2 : (c : Int).tmod 64 = ((c % 64 : Nat) : Int) := rfl
 have e3 : ((64 : Int) = 0) = False := by simp
 have e4 : (((c / 64 : Nat) : Int) < (4 : Nat)) = True := by simp; omega
 refine Ans.of_run' t95 (fun hbel _ => ?_)
 simp -implicitDefEqProofs only [c95, r95, go_sem, get_mid, set_mid, List.length_map]
 refine L.count ys.length (fun i => mkE 48 [(0, .sl 7 (ys.map Stp.av)), (1, W now), (2, .pl (.int .u8 c)), (7, .ptr σ.length 0), (8, W (nextL ys now c i).1), (11, .sl 7 (ys.map Stp.av)), (12, I ys.length), (13, I i)])
  (fun i => σ ++ [.box [W (nextL ys now c i).2]]) ?_ ?_ ?_ rfl
 · intro i hi J hJ
   have hlt : ((i : Int) < ys.length) = True := by simp; omega
   have hge := stpAt_get hi
   have hop := op1_lt hc hi
   rw [nextL] at hJ
   generalize nextL ys now c i = st at hJ ⊢
   obtain ⟨to, been⟩ := st
   simp only at hJ ⊢
   have hin := wrap_nat (n := i) (by omega)
   have hcome := comeF_ans hc (i + 1) been σ
   generalize hq : pcomeF ys (i + 1) been = q at hJ hcome
   obtain ⟨qr, qb⟩ := q
   have hsg := setU_get (stpAt ys i) (c / 64) (by omega)
   generalize hs : stpAt ys i = s at hge hop hJ hsg
   have hb1 : ∀ b : BitVec 64, (∀ o ∈ σ ++ [Ob.box [W b]], BelO (σ.length + 1) o) = True := fun b => eq_true (by
    intro o ho
    rcases List.mem_append.1 ho with ho | ho
    · exact BelO_mono (hbel o ho) (Nat.le_succ _)
    · simp only [List.mem_cons, List.not_mem_nil, or_false] at ho
      subst ho
      intro y hy
      simp only [List.mem_cons, List.not_mem_nil, or_false] at hy
      subst hy
      exact .pl _)
   have hsd : (List.drop (1 + c / 64) [I s.op, U s.a, U s.b, U s.c, U s.d, I s.x, I s.y]).head? = some (U (setU s (c / 64))) := by rw [List.head?_drop]; exact hsg
   simp -implicitDefEqProofs only [mkE, go_sem, hlt, hge, Stp.av, List.append_assoc, List.length_append, g0, g1, s0, s1, List.drop_nil]
   refine OG.split (fun hb => ?_) (fun hb => ?_)
   · have hb' : now.getLsbD i = true := (W_get now i (by omega)).symm.trans hb
     rw [hb'] at hJ
     simp -implicitDefEqProofs only [go_sem, hb, List.append_assoc, List.length_append, g0, g1, s0, s1]
     refine OG.split (fun h1 => ?_) (fun h1 => ?_)
     · have h1' : s.op = 1 := by simpa using h1
       simp -implicitDefEqProofs only [go_sem, h1, e1, e2, e3, e4, hsd, Nat.mul_one, List.append_assoc, List.length_append, g0, g1, s0, s1]
       refine C.split (fun ht => ?_) (fun ht => ?_)
       · have ht' : tstU (setU s (c / 64)) (c % 64) = true := ht
         have hj : (true && takesS s c) = true := by rw [takesS, ht', h1]; rfl
         rw [hj] at hJ
         have e5 := W_or to qr
         simp -implicitDefEqProofs only [go_sem] at e5
         have hc' := hcome (hop h1')
         have hc2 : ∀ (x : Ob), Ans Tryz.prog 107 [.sl 7 (ys.map Stp.av), I (i + 1 : Nat), .ptr σ.length 0] (σ ++ [.box [W been], x]) (W qr) (σ ++ [.box [W qb], x]) := fun x => by
          have h6 := come_ans ys h1_1 h3 fuel (i + 1) been (σ ++ [.box [W been], x]) σ.length (by simp) (fuel_gt been) (hop h1')
          have e6 : pcome ys fuel (i + 1) been = (qr, qb) := hq
          rw [s0, s0, e6] at h6
          exact h6
         simp -implicitDefEqProofs only [go_sem, ht, hin]
         refine CO.intro (hc2 _) ?_
         simp -implicitDefEqProofs only [go_sem, e5, hin, B_pl, B_any, B_nils, B_tup, B_lv, B_lvs, B_sl1, B_osl, B_ptr, B_agg2, B_sl0, B_sx, B_st7, B_rp7, take1, hb1, List.append_assoc, List.length_append]
         exact ⟨by omega, by omega, hJ⟩
       · have ht' : tstU (setU s (c / 64)) (c % 64) = false := ht
         have hj : (true && takesS s c) = false := by rw [takesS, ht']; simp
         rw [hj] at hJ
         simp -implicitDefEqProofs only [go_sem, ht, hin, B_pl, B_any, B_nils, B_tup, B_lv, B_lvs, B_sl1, B_osl, B_ptr, B_agg2, B_sl0, B_sx, B_st7, B_rp7, take1, hb1, List.append_assoc, List.length_append]
         exact ⟨by omega, by omega, hJ⟩
     · have hj : (true && takesS s c) = false := by rw [takesS, h1]; simp
       rw [hj] at hJ
       simp -implicitDefEqProofs only [go_sem, h1, hin, B_pl, B_any, B_nils, B_tup, B_lv, B_lvs, B_sl1, B_osl, B_ptr, B_agg2, B_sl0, B_sx, B_st7, B_rp7, take1, hb1, List.append_assoc, List.length_append, g0, g1, s0, s1]
       exact ⟨by omega, by omega, hJ⟩
   · have hb' : now.getLsbD i = false := (W_get now i (by omega)).symm.trans hb
     rw [hb'] at hJ
     simp -implicitDefEqProofs only [go_sem, hb, List.append_assoc, List.length_append, g0, g1, s0, s1, hin, B_pl, B_any, B_nils, B_tup, B_lv, B_lvs, B_sl1, B_osl, B_ptr, B_agg2, B_sl0, B_sx, B_st7, B_rp7, take1, hb1]
     exact ⟨by omega, by omega, hJ⟩
 · intro J
   have hlt : ((ys.length : Int) < ys.length) = False := by simp
   simp -implicitDefEqProofs only [mkE, go_sem, hlt]
   rw [pnext]
   exact Fini.trim2 (σ' := σ) rfl rfl (Nat.le_refl _) (.pl _) hbel
 · simp -implicitDefEqProofs only [mkE, go_sem, nextL]
   rfl
end Go.Proofs.YtoadgajhkhejiaaGreat
namespace Go.Proofs.YtoadgajhkhejiaaGreat
open Go Go.Ab
set_option maxRecDepth 100000
def nowL (ys : List Stp) (s : ByteArray) : Nat → BitVec 64
 | 0 => pstart ys
 | k + 1 => pnext ys (nowL ys s k) (byteAt s k)
def endsAt (ys : List Stp) (now : BitVec 64) (i : Nat) : Bool := now.getLsbD i && (stpAt ys i).op == 4
def pmatch (ys : List Stp) (s : ByteArray) : Bool := pcheck ys && (List.range ys.length).any (endsAt ys (nowL ys s s.size))
theorem any_range_false {n : Nat} {p : Nat → Bool} (h : ∀ i, i < n → p i = false) : (List.range n).any p = false := by
 rw [List.any_eq_false]; intro x hx; rw [h x (List.mem_range.1 hx)]; exact Bool.false_ne_true
theorem any_range_true {n : Nat} {p : Nat → Bool} {i : Nat} (hi : i < n) (h : p i = true) : (List.range n).any p = true := by
 rw [List.any_eq_true]; exact ⟨i, List.mem_range.2 hi, h⟩
theorem match_ans (ys : List Stp) (x : AV) (hx : Lst ys x) (s : ByteArray) (hs : s.size ≤ 100000) (σ : St) : Ans Tryz.prog 79 [x, Sx s] σ (Bo (pmatch ys s)) σ := by
 cases hc : pcheck ys with
 | false =>
   refine Ans.of_run t79 ?_
   simp -implicitDefEqProofs only [c79, r79, go_sem]
   refine CO.intro (check_ans σ ys x hx) ?_
   simp -implicitDefEqProofs only [go_sem, hc]
   refine Fini.ret' rfl (bo_congr ?_)
   simp [pmatch, hc]
 | true =>
 obtain ⟨h1, h2, h3⟩ := check_in hc
 have hx' : x = .sl 7 (ys.map Stp.av) := by
  rcases hx with ⟨rfl, rfl⟩ | rfl
  · simp at h2
  · rfl
 subst hx'
 refine Ans.of_run' t79 (fun hbel _ => ?_)
 simp -implicitDefEqProofs only [c79, r79, go_sem]
 refine CO.intro (check_ans σ ys _ hx) ?_
 simp -implicitDefEqProofs only [go_sem, hc]
 refine CO.intro (start_ans hc σ) ?_
 simp -implicitDefEqProofs only [go_sem]
 refine L.count s.size (fun i => mkE 44 [(0, .sl 7 (ys.map Stp.av)), (1, Sx s), (5, W (nowL ys s i)), (15, I s.size), (16, I i)]) (fun _ => σ) ?_ ?_ ?_ rfl
 · intro i hi J hJ
   have hlt : ((i : Int) < s.size) = True := by simp; omega
   have hin := wrap_nat (n := i) (by omega)
   rw [nowL] at hJ
   generalize nowL ys s i = now at hJ ⊢
   simp -implicitDefEqProofs only [mkE, go_sem, hlt, byteAt_def]
   refine CO.intro (next_scan_ans hc now (byteAt s i) (byteAt_lt s i) σ) ?_
   simp -implicitDefEqProofs only [go_sem, hin]
   exact hJ
 · intro J
   have hlt : ((s.size : Int) < s.size) = False := by simp
   generalize hnow : nowL ys s s.size = now
   simp -implicitDefEqProofs only [mkE, go_sem, hlt, List.length_map]
   refine Go.Ab.L.scan ys.length (fun i => !endsAt ys now i) (fun i => mkE 44 [(5, W now), (26, .sl 7 (ys.map Stp.av)), (27, I ys.length), (28, I i)]) (fun _ => σ) ?_ ?_ ?_ rfl
   · intro i hi hp J hJ
     have hlt : ((i : Int) < ys.length) = True := by simp; omega
     have hin := wrap_nat (n := i) (by omega)
     have hge := stpAt_get hi
     generalize hst : stpAt ys i = st at hge
     have hb0 : (∀ o ∈ σ, BelO σ.length o) = True := eq_true hbel
     simp -implicitDefEqProofs only [mkE, go_sem, hlt, hge, Stp.av, List.append_assoc, List.length_append, g0, g1, s0, s1, List.drop_nil]
     have htk : ∀ x : Ob, (σ ++ [x]).take σ.length = σ := fun x => List.take_left' rfl
     have hout : ∀ b : Bool, endsAt ys now i = b → (!endsAt ys now i) = !b := fun b h => by rw [h]
     refine OG.split (fun hb => ?_) (fun hb => ?_)
     · have hb' : now.getLsbD i = true := (W_get now i (by omega)).symm.trans hb
       simp -implicitDefEqProofs only [go_sem, hb, g0, s0]
       refine C.split (fun h4 => ?_) (fun h4 => ?_)
       · simp -implicitDefEqProofs only [go_sem, h4]
         have hE : endsAt ys now i = true := by rw [endsAt, hb', hst]; exact h4
         have hP : pmatch ys s = true := by rw [pmatch, hc, hnow, any_range_true hi hE]; rfl
         rw [hP]
         exact Fini.trim2 (σ' := σ) rfl rfl (Nat.le_refl _) (.pl _) hbel
       · have hE : endsAt ys now i = false := by rw [endsAt, hb', hst]; exact h4
         rw [hE] at hJ
         simp -implicitDefEqProofs only [go_sem, h4, hin, B_pl, B_any, B_nils, B_tup, B_lv, B_lvs, B_sl1, B_osl, B_ptr, B_agg2, B_sl0, B_sx, B_st7, B_rp7, htk, Nat.add_zero, hb0]
         exact ⟨by simp, hJ rfl⟩
     · have hb' : now.getLsbD i = false := (W_get now i (by omega)).symm.trans hb
       have hE : endsAt ys now i = false := by rw [endsAt, hb']; rfl
       rw [hE] at hJ
       simp -implicitDefEqProofs only [go_sem, hb, hin, B_pl, B_any, B_nils, B_tup, B_lv, B_lvs, B_sl1, B_osl, B_ptr, B_agg2, B_sl0, B_sx, B_st7, B_rp7, htk, Nat.add_zero, hb0, g0, s0]
       exact ⟨by simp, hJ rfl⟩
   · intro hp J
     have hlt : ((ys.length : Int) < ys.length) = False := by simp
     simp -implicitDefEqProofs only [mkE, go_sem, hlt]
     refine Fini.ret' rfl (bo_congr ?_)
     rw [pmatch, hc, hnow, any_range_false (fun i hi => by simpa using hp i hi)]
     rfl
   · rfl
 · rfl
end Go.Proofs.YtoadgajhkhejiaaGreat
