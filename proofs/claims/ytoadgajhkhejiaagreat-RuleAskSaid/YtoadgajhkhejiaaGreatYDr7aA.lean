/- The document's Takes, Name, whether a matcher may be. No condition. -/
import Derived.Test.YtoadgajhkhejiaaGreatYDc7A
import Derived.Test.YtoadgajhkhejiaaGreatYMArgA
import Derived.Test.YtoadgajhkhejiaaGreatYDc2A
import Derived.Test.YtoadgajhkhejiaaGreatProg
import Derived.Test.YtoadgajhkhejiaaGreatAbStepA
import Derived.Test.YtoadgajhkhejiaaGreatYPChkBA
import Derived.Test.YtoadgajhkhejiaaGreatCod2A
set_option linter.unusedSimpArgs false
set_option linter.unusedVariables false
namespace Go.Proofs.YtoadgajhkhejiaaGreat
open Go Go.Ab Rex
set_option maxRecDepth 100000
theorem takes_ans (σ : St) (w : ByteArray) (hw : w.size ≤ 100000) (x : Rex) (his : x.is = true) (hn : x.nodes ≤ 1000) :
  Ans Tryz.prog 80 [x.av, Sx w] σ (Bo (dtakes w x)) σ := by
 have he := fun σ => ends_ans σ w hw x his hn
 rw [dtakes, his, Bool.true_and]
 generalize daft w x (oneB w) = D at he ⊢
 have hlen := endsL_len D (w.size + 1)
 have hsucc := endsL_succ D w.size
 have hmem : ∀ a ∈ endsL D w.size, a < w.size := fun a ha => List.mem_range.1 (List.mem_filter.1 ha).1
 simp only [av_eq] at he ⊢
 refine Ans.of_run t80 ?_
 simp -implicitDefEqProofs only [c80, r80, go_sem]
 refine CO.intro (he _) ?_
 cases hb : D.getD w.size false with
 | true =>
   rw [hb, if_pos rfl] at hsucc
   have hl : (endsL D (w.size + 1)).length = (endsL D w.size).length + 1 := by rw [hsucc]; simp
   have hg : (List.map (fun n : Nat => I (n : Int)) (endsL D (w.size + 1)))[(endsL D w.size).length]? = some (I (w.size : Int)) := by rw [hsucc]; simp
   have d0 : decide ((0 : Int) < ((endsL D w.size).length + 1 : Nat)) = true := by simp
   have d1 : IntKind.i64.wrap ((((endsL D w.size).length + 1 : Nat) : Int) - 1) = ((endsL D w.size).length : Int) := by rw [wrapN (by omega) (by omega)]; omega
   have d2 : (((endsL D w.size).length : Int) < ((endsL D w.size).length + 1 : Nat)) = True := by simp; omega
   simp -implicitDefEqProofs only [go_sem, List.length_map, hl, d0, d1, d2, hg, Int.toNat_natCast, beq_self_eq_true]
   exact Fini.ret rfl
 | false =>
   rw [hb, if_neg Bool.false_ne_true] at hsucc
   rw [hsucc] at hlen ⊢
   generalize endsL D w.size = en at hlen hmem ⊢
   rcases List.eq_nil_or_concat en with rfl | ⟨en', a, rfl⟩
   · have d0 : decide ((0 : Int) < (0 : Nat)) = false := by decide
     simp -implicitDefEqProofs only [go_sem, List.length_map, List.map_nil, List.length_nil, d0]
     exact Fini.ret rfl
   · rw [List.concat_eq_append] at hlen hmem ⊢
     have ha := hmem a (by simp)
     rw [List.length_append, List.length_singleton] at hlen
     have hl : (en' ++ [a]).length = en'.length + 1 := by simp
     have hg : (List.map (fun n : Nat => I (n : Int)) (en' ++ [a]))[en'.length]? = some (I (a : Int)) := by simp
     have d0 : decide ((0 : Int) < (en'.length + 1 : Nat)) = true := by simp
     have d1 : IntKind.i64.wrap (((en'.length + 1 : Nat) : Int) - 1) = (en'.length : Int) := by rw [wrapN (by omega) (by omega)]; omega
     have d2 : ((en'.length : Int) < (en'.length + 1 : Nat)) = True := by simp; omega
     have d3 : ((a : Int) == (w.size : Int)) = false := by rw [beq_cast]; simp; omega
     simp -implicitDefEqProofs only [go_sem, List.length_map, hl, d0, d1, d2, d3, hg, Int.toNat_natCast]
     exact Fini.ret rfl
theorem likeD_ans (σ : St) (k : Int) (nm v : ByteArray) : Ans Tryz.prog 74 [mat k nm v] σ (Bo (likeB k)) σ := by
 refine Ans.of_run t74 ?_
 simp -implicitDefEqProofs only [c74, r74, go_sem]
 unfold likeB
 cases h : k == 3
 · simp -implicitDefEqProofs only [go_sem]
   exact Fini.ret rfl
 · simp -implicitDefEqProofs only [go_sem]
   exact Fini.ret rfl
theorem getlab_ans (σ : St) (L : List Lab) (nm : ByteArray) (hl : L.length ≤ 1000) : Ans Tryz.prog 40 [.sl 2 (lvs L), Sx nm] σ (Sx (getL L nm)) σ := by
 refine Ans.of_run t40 ?_
 simp -implicitDefEqProofs only [c40, r40, go_sem]
 generalize hres : getL L nm = res
 refine Go.Ab.L.intro (α := { i : Nat // i ≤ L.length ∧ getL (L.drop i) nm = res }) (fun x => L.length - x.1) (fun x => mkE 24 [(0, .sl 2 (lvs L)), (1, Sx nm), (5, I x.1)]) (fun _ => σ)
  (fun x J hJ => ?_) ⟨0, Nat.zero_le _, hres⟩ rfl rfl
 obtain ⟨i, h1, h2⟩ := x
 simp only at hJ ⊢
 by_cases hi : i < L.length
 · have hx := lvs_get L i hi
   rw [List.drop_eq_getElem_cons hi, getL] at h2
   generalize L[i] = y at hx h2
   obtain ⟨a, b⟩ := y
   simp only [lv] at hx
   have hin := wrap_nat (n := i) (by omega)
   cases hb : (a.toList == nm.toList) with
   | true =>
     rw [hb, if_pos rfl] at h2
     subst h2
     simp -implicitDefEqProofs only [mkE, go_sem, lvs_len, nat_lt hi, dec_lt hi, hx, hb]
     exact Fini.ret rfl
   | false =>
     rw [hb, if_neg Bool.false_ne_true] at h2
     simp -implicitDefEqProofs only [mkE, go_sem, lvs_len, nat_lt hi, dec_lt hi, hx, hb, hin]
     exact hJ ⟨i + 1, hi, h2⟩ (by simp only; omega)
 · rw [List.drop_eq_nil_iff.2 (by omega), getL] at h2
   subst h2
   simp -implicitDefEqProofs only [mkE, go_sem, lvs_len, nat_nlt hi, dec_nlt hi]
   exact Fini.ret rfl
end Go.Proofs.YtoadgajhkhejiaaGreat
namespace Go.Proofs.YtoadgajhkhejiaaGreat
open Go Go.Ab Rex
set_option maxRecDepth 100000
def okN (s : ByteArray) (i : Nat) : Bool := letterB (byteAt s i) || (!(i == 0) && digitB (byteAt s i))
def nameD (s : ByteArray) : Bool := (List.range s.size).all (okN s) && (decide (1 ≤ s.size) && decide (s.size ≤ 12))
theorem nameD_eq (s : ByteArray) : nameD s = nameB s := by
 unfold nameD nameB
 by_cases h1 : 1 ≤ s.size
 · by_cases h2 : s.size ≤ 12
   · rw [decide_eq_true h1, decide_eq_true h2]
     simp only [Bool.and_self, Bool.and_true, Bool.true_and]
     rw [Bool.eq_iff_iff]
     simp only [Bool.and_eq_true, List.all_eq_true, List.mem_range, okN, Bool.or_eq_true, Bool.not_eq_true', beq_eq_false_iff_ne]
     constructor
     · intro h
       refine ⟨?_, fun i hi => ?_⟩
       · rcases h 0 (by omega) with h | h
         · exact h
         · exact absurd rfl h.1
       · rcases h i hi with h | h
         · exact .inl h
         · exact .inr h.2
     · rintro ⟨h0, h⟩ i hi
       by_cases hz : i = 0
       · subst hz; exact .inl h0
       · rcases h i hi with h | h
         · exact .inl h
         · exact .inr ⟨hz, h⟩
   · rw [decide_eq_false h2]; simp
 · rw [decide_eq_false h1]; simp
set_option maxHeartbeats 16000000 in
theorem dname_ans (σ : St) (s : ByteArray) (hs : s.size ≤ 100000) : Ans Tryz.prog 30 [Sx s] σ (Bo (nameB s)) σ := by
 rw [← nameD_eq]
 refine Ans.of_run t30 ?_
 simp -implicitDefEqProofs only [c30, r30, go_sem]
 refine Go.Ab.L.scan s.size (okN s) (fun i => mkE 55 [(0, Sx s), (3, I i)]) (fun _ => σ) ?_ ?_ rfl rfl
 · intro i hi hp J hJ
   have hlt : ((i : Int) < s.size) = True := by simp; omega
   have hdi : decide ((i : Int) < s.size) = true := by simp; omega
   have hin := wrap_nat (n := i) (by omega)
   have hF : okN s i = false → nameD s = false := fun h => by
    rw [nameD, List.all_eq_false.2 ⟨i, List.mem_range.2 hi, by simp [h]⟩]; rfl
   have e1 : decide ((97 : Int) ≤ (byteAt s i : Nat)) = decide (97 ≤ byteAt s i) := int_le 97 _
   have e2 : decide (((byteAt s i : Nat) : Int) ≤ 122) = decide (byteAt s i ≤ 122) := int_le _ 122
   have e3 : decide ((65 : Int) ≤ (byteAt s i : Nat)) = decide (65 ≤ byteAt s i) := int_le 65 _
   have e4 : decide (((byteAt s i : Nat) : Int) ≤ 90) = decide (byteAt s i ≤ 90) := int_le _ 90
   have e5 : (((byteAt s i : Nat) : Int) == 95) = (byteAt s i == 95) := beq_cast _ 95
   have e6 : decide (((byteAt s i : Nat) : Int) < 48) = decide (byteAt s i < 48) := decN _ 48
   have e7 : decide ((57 : Int) < (byteAt s i : Nat)) = decide (57 < byteAt s i) := decN 57 _
   have e8 : ((i : Int) == 0) = (i == 0) := beq_cast i 0
   have hd : digitB (byteAt s i) = (!decide (byteAt s i < 48) && !decide (57 < byteAt s i)) := by
    unfold digitB
    rw [Bool.eq_iff_iff]; simp
   have hL : letterB (byteAt s i) = (decide (97 ≤ byteAt s i) && decide (byteAt s i ≤ 122) || decide (65 ≤ byteAt s i) && decide (byteAt s i ≤ 90) || byteAt s i == 95) := rfl
   have hO : okN s i = (letterB (byteAt s i) || (!(i == 0) && digitB (byteAt s i))) := rfl
   rw [hO, hL, hd] at hF hJ
   generalize decide (97 ≤ byteAt s i) = b1 at *
   generalize decide (byteAt s i ≤ 122) = b2 at *
   generalize decide (65 ≤ byteAt s i) = b3 at *
   generalize decide (byteAt s i ≤ 90) = b4 at *
   generalize (byteAt s i == 95) = b5 at *
   generalize decide (byteAt s i < 48) = b6 at *
   generalize decide (57 < byteAt s i) = b7 at *
   generalize (i == 0) = b8 at *
   clear hL hd hO
   simp -implicitDefEqProofs only [mkE, go_sem, hlt, hdi, byteAt_def]
   cases b1 <;> cases b2 <;> cases b3 <;> cases b4 <;> cases b5
   all_goals simp -implicitDefEqProofs only [go_sem, e1, e2, e3, e4, e5, e6, e7, e8, hin]
   all_goals first
    | exact hJ rfl
    | (cases b8 <;> cases b6 <;> cases b7 <;> simp -implicitDefEqProofs only [go_sem, e6, e7, e8, hin] <;> first
      | exact hJ rfl
      | (refine Fini.ret' rfl (bo_congr ?_); exact (hF rfl).symm))
 · intro hp J
   have hdi : decide ((s.size : Int) < s.size) = false := by simp
   have d1 : decide ((1 : Int) ≤ s.size) = decide (1 ≤ s.size) := int_le 1 _
   have d2 : decide ((s.size : Int) ≤ 12) = decide (s.size ≤ 12) := int_le _ 12
   have hA : (List.range s.size).all (okN s) = true := List.all_eq_true.2 fun i hi => hp i (List.mem_range.1 hi)
   rw [nameD, hA, Bool.true_and]
   cases h1 : decide (1 ≤ s.size) with
   | true =>
     rw [h1] at d1
     simp -implicitDefEqProofs only [mkE, go_sem, hdi, d1, d2]
     exact Fini.ret rfl
   | false =>
     rw [h1] at d1
     simp -implicitDefEqProofs only [mkE, go_sem, hdi, d1, d2]
     exact Fini.ret rfl
end Go.Proofs.YtoadgajhkhejiaaGreat
namespace Go.Proofs.YtoadgajhkhejiaaGreat
open Go Go.Ab Rex
set_option maxRecDepth 100000
theorem dis_any (σ : St) (k : Int) (nm v : ByteArray) (hs : nm.size ≤ 100000) : Ans Tryz.prog 51 [mat k nm v] σ (Bo (isB k nm v)) σ := by
 refine Ans.of_run t51 ?_
 unfold isB
 simp -implicitDefEqProofs only [c51, r51, go_sem]
 refine CO.intro (dname_ans σ nm hs) ?_
 cases hn : nameB nm with
 | false =>
   simp -implicitDefEqProofs only [go_sem]
   exact Fini.ret rfl
 | true =>
 simp -implicitDefEqProofs only [go_sem]
 refine CO.intro (likeD_ans σ k nm v) ?_
 cases hk : likeB k with
 | true =>
   simp -implicitDefEqProofs only [go_sem]
   refine CO.intro (dparse_ans v σ) ?_
   rw [dparse_eq]
   have hrv := Rex.rv_eq (pparse v).1
   generalize (pparse v).1 = x at hrv ⊢
   generalize (pparse v).2 = b
   rw [hrv]
   rcases Rex.rvK_cases x.ks with e | ⟨l, e⟩ <;> rw [e]
   all_goals (simp -implicitDefEqProofs only [go_sem]; exact Fini.ret rfl)
 | false =>
   have d : decide ((v.size : Int) ≤ 24) = decide (v.size ≤ 24) := int_le v.size 24
   simp -implicitDefEqProofs only [go_sem]
   cases h1 : k == 1 with
   | true =>
     simp -implicitDefEqProofs only [go_sem, d]
     exact Fini.ret rfl
   | false =>
     simp -implicitDefEqProofs only [go_sem]
     cases h2 : k == 2 with
     | true =>
       simp -implicitDefEqProofs only [go_sem, d]
       exact Fini.ret rfl
     | false =>
       simp -implicitDefEqProofs only [go_sem]
       exact Fini.ret rfl
def dlargeB (k : Int) (nm v : ByteArray) : Bool := isB k nm v && (likeB k && decide ((40 : Int) < full (pparse v).1))
theorem dlarge_any (σ : St) (k : Int) (nm v : ByteArray) (hs : nm.size ≤ 100000) : Ans Tryz.prog 56 [mat k nm v] σ (Bo (dlargeB k nm v)) σ := by
 refine Ans.of_run t56 ?_
 unfold dlargeB
 simp -implicitDefEqProofs only [c56, r56, go_sem]
 refine CO.intro (dis_any σ k nm v hs) ?_
 cases hi : isB k nm v with
 | false =>
   simp -implicitDefEqProofs only [go_sem]
   exact Fini.ret rfl
 | true =>
 simp -implicitDefEqProofs only [go_sem]
 refine CO.intro (likeD_ans σ k nm v) ?_
 cases hk : likeB k with
 | false =>
   simp -implicitDefEqProofs only [go_sem]
   exact Fini.ret rfl
 | true =>
 simp -implicitDefEqProofs only [go_sem]
 refine CO.intro (dparse_ans v σ) ?_
 rw [dparse_eq]
 have hrv := Rex.rv_eq (pparse v).1
 have hno := pparse_nodes v
 generalize (pparse v).1 = x at hrv hno ⊢
 generalize (pparse v).2 = b
 have hz : Ans Tryz.prog 78 [x.rv] σ (I (full x)) σ := Ans.sub (rSize_ans σ x (by omega))
 rw [hrv] at hz ⊢
 rcases Rex.rvK_cases x.ks with e | ⟨l, e⟩ <;> rw [e] at hz ⊢
 all_goals
  simp -implicitDefEqProofs only [go_sem]
  refine CO.intro hz ?_
  simp -implicitDefEqProofs only [go_sem]
  exact Fini.ret rfl
end Go.Proofs.YtoadgajhkhejiaaGreat
namespace Go.Proofs.YtoadgajhkhejiaaGreat
open Go Go.Ab Rex
set_option maxRecDepth 100000
def IsF (F : PF) : Prop := ∀ a b, (F a b).1.is = true
theorem is_ofSet (S : List Int) : (ofSet S).is = true := by rw [is_eq]; rfl
theorem is_kids {op : Int} {K : List Rex} (h : ∀ k ∈ K, k.is = true) (ho : op = 2 ∨ (op = 3 ∧ K ≠ []) ∨ ((op = 4 ∨ op = 5 ∨ op = 6) ∧ ∃ k, K = [k])) : (Rex.mk op 0 0 0 0 K).is = true := by
 have hn : (K.any fun k => !k.is) = false := by
  rw [List.any_eq_false]; intro k hk; simp [h k hk]
 rw [is_eq]
 simp only [Rex.op, Rex.ks, plain, Rex.a, Rex.b, Rex.c, Rex.d, hn]
 rcases ho with rfl | ⟨rfl, hne⟩ | ⟨rfl | rfl | rfl, k, rfl⟩
 · rfl
 · have : ((K.length : Int) == 0) = false := by
    cases K with
    | nil => exact absurd rfl hne
    | cons _ _ => simp; omega
   simp [this]
 · rfl
 · rfl
 · rfl
variable (s : ByteArray)
theorem isF_atom {F : PF} {d : Nat} (h : IsF F) : IsF (patom s F d) := fun a b => by
 unfold patom
 simp only
 repeat' split
 all_goals first
  | exact is_ofSet _
  | exact h _ _
theorem isF_factor {F : PF} (h : IsF F) : IsF (pfactor s F) := fun a b => by
 have hx : ∀ k ∈ [(F a b).1], k.is = true := fun k hk => by
  simp only [List.mem_cons, List.not_mem_nil, or_false] at hk
  rw [hk]; exact h a b
 unfold pfactor
 simp only
 repeat' split
 · exact is_kids hx (.inr (.inr ⟨.inl rfl, _, rfl⟩))
 · exact is_kids hx (.inr (.inr ⟨.inr (.inl rfl), _, rfl⟩))
 · exact is_kids hx (.inr (.inr ⟨.inr (.inr rfl), _, rfl⟩))
 · exact h a b
theorem is_one2 {K : List Rex} (h : ∀ k ∈ K, k.is = true) : (one 2 K).is = true := by
 unfold one
 split
 · exact h _ (by simp)
 · exact is_kids h (.inl rfl)
theorem is_one3 {K : List Rex} (h : ∀ k ∈ K, k.is = true) (hne : K ≠ []) : (one 3 K).is = true := by
 unfold one
 split
 · exact h _ (by simp)
 · exact is_kids h (.inr (.inl ⟨rfl, hne⟩))
theorem isF_wayL {F : PF} (h : IsF F) : ∀ (n : Nat) (K : List Rex) (a : Nat) (b : Bool), (∀ k ∈ K, k.is = true) → ∀ k ∈ (pwayL s F n K a b).1, k.is = true
 | 0, K, a, b, hK => hK
 | n + 1, K, a, b, hK => by
   rw [pwayL]; split
   · refine isF_wayL h n _ _ _ fun k hk => ?_
     rcases List.mem_append.1 hk with hk | hk
     · exact hK k hk
     · simp only [List.mem_cons, List.not_mem_nil, or_false] at hk
       rw [hk]; exact h _ _
   · exact hK
theorem isF_way {F : PF} (h : IsF F) : IsF (pway s F) := fun a b => is_one2 (isF_wayL s h _ _ _ _ (fun k hk => absurd hk (by simp)))
theorem isF_waysL {F : PF} (h : IsF F) : ∀ (n : Nat) (K : List Rex) (a : Nat) (b : Bool), (∀ k ∈ K, k.is = true) → K ≠ [] → (∀ k ∈ (pwaysL s F n K a b).1, k.is = true) ∧ (pwaysL s F n K a b).1 ≠ []
 | 0, K, a, b, hK, hne => ⟨hK, hne⟩
 | n + 1, K, a, b, hK, hne => by
   rw [pwaysL]; split
   · refine isF_waysL h n _ _ _ (fun k hk => ?_) (by simp)
     rcases List.mem_append.1 hk with hk | hk
     · exact hK k hk
     · simp only [List.mem_cons, List.not_mem_nil, or_false] at hk
       rw [hk]; exact h _ _
   · exact ⟨hK, hne⟩
theorem isF_ways {F : PF} (h : IsF F) : IsF (pways s F) := fun a b => by
 have := isF_waysL s h (s.size + 1) [(F a b).1] (F a b).2.1 (F a b).2.2 (fun k hk => by
  simp only [List.mem_cons, List.not_mem_nil, or_false] at hk
  rw [hk]; exact h _ _) (by simp)
 exact is_one3 this.1 this.2
theorem isF_lvl {W : PF} (h : IsF W) (d : Nat) : IsF (lvl s W d) := isF_ways s (isF_way s (isF_factor s (isF_atom s h)))
theorem isF_PW : ∀ k, IsF (PW s k)
 | 0 => isF_lvl s (fun _ _ => is_ofSet _) 8
 | k + 1 => isF_lvl s (isF_PW k) _
theorem pparse_is (h : (pparse s).2 = true) : (pparse s).1.is = true := by
 unfold pparse at h ⊢
 simp only at h ⊢
 split at h
 · cases h
 · rename_i hc
   rw [if_neg hc]
   exact isF_PW s 8 _ _
end Go.Proofs.YtoadgajhkhejiaaGreat
namespace Go.Proofs.YtoadgajhkhejiaaGreat
open Go Go.Ab Rex
set_option maxRecDepth 100000
theorem Ans.sub' {P : Program} {f : FuncId} {x : Rex} {l : List AV} {σ σ' : St} {r : AV} (h : Ans P f (x.av :: l) σ r σ') : Ans P f (x.rv :: l) σ r σ' := by
 intro M ν w vs hg hr
 refine h M ν w vs hg ⟨by simpa using hr.1, fun j hj hj' => ?_⟩
 cases j with
 | zero => exact sub_rv x _ (hr.2 0 (by simp) hj')
 | succ j => exact hr.2 (j + 1) (by simpa using hj) hj'
theorem large_eq (k : Int) (nm v : ByteArray) : dlargeB k nm v = largeB k nm v := by
 unfold dlargeB largeB
 cases hi : isB k nm v with
 | false => simp
 | true =>
 cases hk : likeB k with
 | false => simp
 | true =>
   have hp : (pparse v).2 = true := by
    unfold isB at hi
    rw [hk, if_pos rfl] at hi
    simp only [Bool.and_eq_true] at hi
    exact hi.2
   have his := pparse_is v hp
   unfold progO full Rex.made
   rw [hp, his]
   simp only [Bool.not_true, Bool.false_eq_true, if_false, if_true, Bool.true_and, true_and, Bool.and_self]
   by_cases h : (pparse v).1.size + 1 ≤ 40
   · rw [if_pos h, decide_eq_false (by omega)]; rfl
   · rw [if_neg h, decide_eq_true (by omega)]; rfl
theorem dholds_any (σ : St) (k : Int) (nm v : ByteArray) (L : List Lab) (hl : L.length ≤ 1000) (hs : nm.size ≤ 100000) (hw : (getL L nm).size ≤ 100000) :
  Ans Tryz.prog 59 [mat k nm v, .sl 2 (lvs L)] σ (Bo (holdsB k nm v (getL L nm))) σ := by
 have hla : largeB k nm v = (likeB k && isB k nm v && (progO v).isNone) := rfl
 refine Ans.of_run t59 ?_
 unfold holdsB
 simp -implicitDefEqProofs only [c59, r59, go_sem]
 refine CO.intro (dis_any σ k nm v hs) ?_
 cases hi : isB k nm v with
 | false =>
   simp -implicitDefEqProofs only [go_sem]
   exact Fini.ret rfl
 | true =>
 simp -implicitDefEqProofs only [go_sem]
 refine CO.intro (dlarge_any σ k nm v hs) ?_
 rw [large_eq, hla, hi]
 have hk12 : likeB k = true → (k == 1) = false ∧ (k == 2) = false := fun h => by
  unfold likeB at h
  simp only [Bool.or_eq_true, beq_iff_eq] at h
  constructor <;> simp <;> omega
 have hnl : likeB k = false → (k == 1) = false → (k == 2) = true := fun h h1 => by
  unfold isB at hi
  rw [h] at hi
  simp [h1] at hi
  simpa using hi.2.1
 cases hk : likeB k with
 | false =>
   simp -implicitDefEqProofs only [go_sem, Bool.false_and]
   refine CO.intro (getlab_ans σ L nm hl) ?_
   cases h1 : k == 1 with
   | true =>
     simp -implicitDefEqProofs only [go_sem, h1]
     exact Fini.ret rfl
   | false =>
     have h2 := hnl hk h1
     simp -implicitDefEqProofs only [go_sem, h1, h2]
     exact Fini.ret rfl
 | true =>
   obtain ⟨h1, h2⟩ := hk12 hk
   have hp : (pparse v).2 = true := by
    unfold isB at hi
    rw [hk, if_pos rfl] at hi
    simp only [Bool.and_eq_true] at hi
    exact hi.2
   cases hpr : progO v with
   | none =>
     simp -implicitDefEqProofs only [go_sem, Option.isNone, Bool.true_and, h1, h2]
     exact Fini.ret rfl
   | some l =>
     have hmd : (pparse v).1.made = some l := by unfold progO at hpr; rwa [hp, if_pos rfl] at hpr
     have hdt := dtakes_made (getL L nm) hmd
     simp -implicitDefEqProofs only [go_sem, Option.isNone, Bool.true_and, Bool.and_false, Bool.false_and]
     refine CO.intro (getlab_ans σ L nm hl) ?_
     simp -implicitDefEqProofs only [go_sem, h1, h2]
     refine CO.intro (dparse_ans v σ) ?_
     rw [dparse_eq]
     have hta := fun σ => Ans.sub' (takes_ans σ (getL L nm) hw (pparse v).1 (pparse_is v hp) (by have := pparse_nodes v; omega))
     rw [hdt] at hta
     have hrv := Rex.rv_eq (pparse v).1
     generalize (pparse v).1 = x at hrv hta ⊢
     generalize (pparse v).2 = b
     rw [hrv] at hta ⊢
     rcases Rex.rvK_cases x.ks with e | ⟨l, e⟩ <;> rw [e] at hta ⊢
     all_goals
      simp -implicitDefEqProofs only [go_sem]
      refine CD.intro (hta _) ?_
      simp -implicitDefEqProofs only [go_sem]
      exact Fini.ret rfl
end Go.Proofs.YtoadgajhkhejiaaGreat
namespace Go.Proofs.YtoadgajhkhejiaaGreat
open Go Go.Ab
set_option maxRecDepth 100000
theorem before_ans (σ : St) (x y : Mtr) : Ans Tryz.prog 52 [mv3 x, mv3 y] σ (Bo (aheadD x y)) σ := by
 refine Ans.of_run t52 ?_
 unfold aheadD
 simp -implicitDefEqProofs only [c52, r52, go_sem, mv3]
 cases h1 : (x.2.1.toList == y.2.1.toList) with
 | false =>
   simp -implicitDefEqProofs only [go_sem]
   exact Fini.ret rfl
 | true =>
   simp -implicitDefEqProofs only [go_sem]
   cases h2 : (x.1 == y.1) with
   | false =>
     simp -implicitDefEqProofs only [go_sem, bne, h2]
     exact Fini.ret rfl
   | true =>
     simp -implicitDefEqProofs only [go_sem, bne, h2]
     exact Fini.ret rfl
theorem mvs3_get (M : List Mtr) (i : Nat) (h : i < M.length) : (mvs3 M)[i]? = some (mv3 M[i]) := by simp [mvs3, h]
theorem mvs3_len (M : List Mtr) : (mvs3 M).length = M.length := List.length_map ..
abbrev noM3 : Mtr := (0, ⟨#[]⟩, ⟨#[]⟩)
def isM (x : Mtr) : Bool := isB x.1 x.2.1 x.2.2
def okL (M : List Mtr) (i : Nat) : Bool := isM (M.getD i noM3) && (i == 0 || aheadD (M.getD (i - 1) noM3) (M.getD i noM3))
def listB (M : List Mtr) : Bool := decide (M.length ≤ 5) && (List.range M.length).all (okL M)
theorem mget_D (M : List Mtr) (i : Nat) (h : i < M.length) : (mvs3 M)[i]? = some (mv3 (M.getD i noM3)) := by
 rw [mvs3_get M i h, List.getD_eq_getElem?_getD, List.getElem?_eq_getElem h]; rfl
theorem dlist_ans (σ : St) (M : List Mtr) (hs : ∀ x ∈ M, x.2.1.size ≤ 100000) : Ans Tryz.prog 28 [.sl 3 (mvs3 M)] σ (Bo (listB M)) σ := by
 refine Ans.of_run t28 ?_
 have d5 : decide ((5 : Int) < M.length) = decide (5 < M.length) := decN 5 _
 unfold listB
 simp -implicitDefEqProofs only [c28, r28, go_sem, mvs3_len, d5]
 by_cases hl : M.length ≤ 5
 · rw [decide_eq_true hl, Bool.true_and]
   have h5 : decide (5 < M.length) = false := decide_eq_false (by omega)
   simp -implicitDefEqProofs only [go_sem, h5]
   refine Go.Ab.L.scan M.length (okL M) (fun i => mkE 36 [(0, .sl 3 (mvs3 M)), (3, I i)]) (fun _ => σ) ?_ ?_ rfl rfl
   · intro i hi hp J hJ
     have hF : okL M i = false → (List.range M.length).all (okL M) = false := fun h => List.all_eq_false.2 ⟨i, List.mem_range.2 hi, by simp [h]⟩
     have hx := mget_D M i hi
     have hsz : (M.getD i noM3).2.1.size ≤ 100000 := by
      rw [List.getD_eq_getElem?_getD, List.getElem?_eq_getElem hi]; exact hs _ (List.getElem_mem hi)
     have hin := wrap_nat (n := i) (by omega)
     have hI := fun σ => dis_any σ (M.getD i noM3).1 (M.getD i noM3).2.1 (M.getD i noM3).2.2 hsz
     have hO : okL M i = (isB (M.getD i noM3).1 (M.getD i noM3).2.1 (M.getD i noM3).2.2 && (i == 0 || aheadD (M.getD (i - 1) noM3) (M.getD i noM3))) := rfl
     have d0 : decide ((0 : Int) < i) = decide (0 < i) := decN 0 i
     rw [hO] at hJ hF
     simp -implicitDefEqProofs only [mkE, go_sem, mvs3_len, nat_lt hi, dec_lt hi, hx, mv3, D_callS]
     first | refine CD.intro (hI _) ?_ | refine CS.intro hI ?_
     generalize isB (M.getD i noM3).1 (M.getD i noM3).2.1 (M.getD i noM3).2.2 = b1 at hJ hF
     cases b1 with
     | false =>
       simp -implicitDefEqProofs only [go_sem]
       refine Fini.ret' rfl (bo_congr ?_)
       rw [hF rfl]
     | true =>
       by_cases hz : i = 0
       · subst hz
         simp -implicitDefEqProofs only [go_sem, hin, D_callS, Int.natCast_zero]
         exact hJ rfl
       · have hpos : decide (0 < i) = true := by simp; omega
         have hx1 := mget_D M (i - 1) (by omega)
         have hB := fun σ => before_ans σ (M.getD (i - 1) noM3) (M.getD i noM3)
         have w1 : IntKind.i64.wrap ((i : Int) - 1) = ((i - 1 : Nat) : Int) := by rw [wrapN (by omega) (by omega)]; omega
         have hlt1 : (((i - 1 : Nat) : Int) < M.length) = True := by simp; omega
         have hz' : (i == 0) = false := by simpa using hz
         rw [hz'] at hJ hF
         simp -implicitDefEqProofs only [go_sem, d0, hpos, w1, mvs3_len, nat_lt hi, dec_lt hi, hlt1, hx, hx1, D_callS, mv3]
         first | refine CD.intro (hB _) ?_ | refine CS.intro hB ?_
         generalize aheadD (M.getD (i - 1) noM3) (M.getD i noM3) = b2 at hJ hF
         cases b2 with
         | true =>
           simp -implicitDefEqProofs only [go_sem, hin]
           exact hJ rfl
         | false =>
           simp -implicitDefEqProofs only [go_sem]
           refine Fini.ret' rfl (bo_congr ?_)
           rw [hF rfl]
   · intro hp J
     have hd : decide ((M.length : Int) < M.length) = false := by simp
     simp -implicitDefEqProofs only [mkE, go_sem, mvs3_len, hd]
     refine Fini.ret' rfl (bo_congr ?_)
     exact (List.all_eq_true.2 fun i hi => hp i (List.mem_range.1 hi)).symm
 · rw [decide_eq_false hl, Bool.false_and]
   have h5 : decide (5 < M.length) = true := decide_eq_true (by omega)
   simp -implicitDefEqProofs only [go_sem, h5]
   exact Fini.ret rfl
end Go.Proofs.YtoadgajhkhejiaaGreat
namespace Go.Proofs.YtoadgajhkhejiaaGreat
open Go Go.Ab
set_option maxRecDepth 100000
theorem bel_mvs3 (n : Nat) (M : List Mtr) : Bel n (.sl 3 (mvs3 M)) := by
 refine .sl 3 _ fun i hi => ?_
 have : ∀ y ∈ mvs3 M, Bel n y := by
  intro y hy
  simp only [mvs3, List.mem_map] at hy
  obtain ⟨x, _, rfl⟩ := hy
  refine .agg _ fun i hi => ?_
  have : ∀ y ∈ ([I x.1, Sx x.2.1, Sx x.2.2] : List AV), Bel n y := by
   intro y hy
   simp only [List.mem_cons, List.not_mem_nil, or_false] at hy
   rcases hy with rfl | rfl | rfl <;> exact .pl _
  exact this _ (List.getElem_mem hi)
 exact this _ (List.getElem_mem hi)
theorem BL_mvs (n : Nat) (M : List Mtr) : Bel n (.sl 3 (mvs3 M)) = True := eq_true (bel_mvs3 n M)
theorem memM (n : Nat) (k : Int) (a b : ByteArray) : ∀ y ∈ ([I k, Sx a, Sx b] : List AV), Bel n y := by
 intro y hy
 simp only [List.mem_cons, List.not_mem_nil, or_false] at hy
 rcases hy with rfl | rfl | rfl <;> exact .pl _
theorem BL_mat (n : Nat) (k : Int) (a b : ByteArray) : Bel n (.agg [I k, Sx a, Sx b]) = True := eq_true (.agg _ fun i hi => memM n k a b _ (List.getElem_mem hi))
theorem BL_rp (n : Nat) (k : Int) (a b : ByteArray) : Bel n (.rp [I k, Sx a, Sx b]) = True := eq_true (.rp _ fun i hi => memM n k a b _ (List.getElem_mem hi))
theorem list_any (σ : St) (M : List Mtr) : Ans Tryz.prog 25 [.sl 3 (mvs3 M)] σ (Bo (listB M)) σ := by
 refine Ans.of_run' t25 (fun hbel _ => ?_)
 have d5 : decide ((5 : Int) < M.length) = decide (5 < M.length) := decN 5 _
 have hb0 : (∀ o ∈ σ, BelO σ.length o) = True := eq_true hbel
 unfold listB
 simp -implicitDefEqProofs only [c25, r25, go_sem, mvs3_len, d5]
 by_cases hl : M.length ≤ 5
 · rw [decide_eq_true hl, Bool.true_and]
   have h5 : decide (5 < M.length) = false := decide_eq_false (by omega)
   simp -implicitDefEqProofs only [go_sem, h5, mvs3_len]
   refine Go.Ab.L.scan M.length (okL M) (fun i => mkE 33 [(0, .sl 3 (mvs3 M)), (8, .sl 3 (mvs3 M)), (9, I M.length), (10, I i)]) (fun _ => σ) ?_ ?_ rfl rfl
   · intro i hi hp J hJ
     have htk : ∀ x : Ob, (σ ++ [x]).take σ.length = σ := fun x => List.take_left' rfl
     have hF : okL M i = false → (List.range M.length).all (okL M) = false := fun h => List.all_eq_false.2 ⟨i, List.mem_range.2 hi, by simp [h]⟩
     have hx := mget_D M i hi
     have hin := wrap_nat (n := i) (by omega)
     have hI := fun σ => is_any σ (M.getD i noM3).1 (M.getD i noM3).2.1 (M.getD i noM3).2.2
     have hO : okL M i = (isB (M.getD i noM3).1 (M.getD i noM3).2.1 (M.getD i noM3).2.2 && (i == 0 || aheadD (M.getD (i - 1) noM3) (M.getD i noM3))) := rfl
     have d0 : decide ((0 : Int) < i) = decide (0 < i) := decN 0 i
     rw [hO] at hJ hF
     simp -implicitDefEqProofs only [mkE, go_sem, mvs3_len, nat_lt hi, dec_lt hi, hx, mv3, D_callS, g0, s0, List.drop_nil]
     first | refine CD.intro (hI _) ?_ | refine CS.intro hI ?_
     generalize isB (M.getD i noM3).1 (M.getD i noM3).2.1 (M.getD i noM3).2.2 = b1 at hJ hF
     cases b1 with
     | false =>
       simp -implicitDefEqProofs only [go_sem, D_callS, g0, s0]
       rw [hF rfl]
       exact Fini.trim2 (σ' := σ) rfl rfl (Nat.le_refl _) (.pl _) hbel
     | true =>
       by_cases hz : i = 0
       · subst hz
         have hgo := hJ rfl
         simp -implicitDefEqProofs only [go_sem, hin, D_callS, g0, s0, Int.natCast_zero, B_pl, B_any, B_nils, B_tup, B_osl, B_ptr, B_sl0, BL_mvs, BL_mat, BL_rp, htk, Nat.add_zero, hb0, List.length_append]
         exact ⟨by omega, hgo⟩
       · have hpos : decide (0 < i) = true := by simp; omega
         have hx1 := mget_D M (i - 1) (by omega)
         have hB := fun σ => compare_ans σ (M.getD (i - 1) noM3) (M.getD i noM3)
         have hc := cmp3_aheadD (M.getD (i - 1) noM3) (M.getD i noM3)
         have w1 : IntKind.i64.wrap ((i : Int) - 1) = ((i - 1 : Nat) : Int) := by rw [wrapN (by omega) (by omega)]; omega
         have hlt1 : (((i - 1 : Nat) : Int) < M.length) = True := by simp; omega
         have hz' : (i == 0) = false := by simpa using hz
         rw [hz'] at hJ hF
         simp -implicitDefEqProofs only [go_sem, d0, hpos, w1, mvs3_len, nat_lt hi, dec_lt hi, hlt1, hx, hx1, D_callS, mv3, g0, s0]
         first | refine CD.intro (hB _) ?_ | refine CS.intro hB ?_
         generalize aheadD (M.getD (i - 1) noM3) (M.getD i noM3) = b2 at hJ hF hc
         generalize cmp3 (M.getD (i - 1) noM3) (M.getD i noM3) = cc at hc
         cases b2 with
         | true =>
           have hgo := hJ rfl
           simp -implicitDefEqProofs only [go_sem, hc, hin, g0, s0, B_pl, B_any, B_nils, B_tup, B_osl, B_ptr, B_sl0, BL_mvs, BL_mat, BL_rp, htk, Nat.add_zero, hb0, List.length_append, Bool.not_true]
           exact ⟨by omega, hgo⟩
         | false =>
           simp -implicitDefEqProofs only [go_sem, hc, Bool.not_false, g0, s0]
           rw [hF rfl]
           exact Fini.trim2 (σ' := σ) rfl rfl (Nat.le_refl _) (.pl _) hbel
   · intro hp J
     have hd : decide ((M.length : Int) < M.length) = false := by simp
     simp -implicitDefEqProofs only [mkE, go_sem, mvs3_len, hd]
     refine Fini.ret' rfl (bo_congr ?_)
     exact (List.all_eq_true.2 fun i hi => hp i (List.mem_range.1 hi)).symm
 · rw [decide_eq_false hl, Bool.false_and]
   have h5 : decide (5 < M.length) = true := decide_eq_true (by omega)
   simp -implicitDefEqProofs only [go_sem, h5]
   exact Fini.ret rfl
end Go.Proofs.YtoadgajhkhejiaaGreat
namespace Go.Proofs.YtoadgajhkhejiaaGreat
open Go Go.Ab
set_option maxRecDepth 100000
def largeM (x : Mtr) : Bool := largeB x.1 x.2.1 x.2.2
def anyLarge (M : List Mtr) : Bool := (List.range M.length).any fun i => largeM (M.getD i noM3)
theorem danylarge_ans (σ : St) (M : List Mtr) (hM : M.length ≤ 1000) (hs : ∀ x ∈ M, x.2.1.size ≤ 100000) : Ans Tryz.prog 32 [.sl 3 (mvs3 M)] σ (Bo (anyLarge M)) σ := by
 refine Ans.of_run t32 ?_
 simp -implicitDefEqProofs only [c32, r32, go_sem]
 refine Go.Ab.L.scan M.length (fun i => !largeM (M.getD i noM3)) (fun i => mkE 15 [(0, .sl 3 (mvs3 M)), (3, I i)]) (fun _ => σ) ?_ ?_ rfl rfl
 · intro i hi hp J hJ
   have hF : largeM (M.getD i noM3) = true → anyLarge M = true := fun h => List.any_eq_true.2 ⟨i, List.mem_range.2 hi, h⟩
   have hx := mget_D M i hi
   have hsz : (M.getD i noM3).2.1.size ≤ 100000 := by
    rw [List.getD_eq_getElem?_getD, List.getElem?_eq_getElem hi]; exact hs _ (List.getElem_mem hi)
   have hin := wrap_nat (n := i) (by omega)
   have hI := fun σ => dlarge_any σ (M.getD i noM3).1 (M.getD i noM3).2.1 (M.getD i noM3).2.2 hsz
   rw [large_eq] at hI
   have hO : largeM (M.getD i noM3) = largeB (M.getD i noM3).1 (M.getD i noM3).2.1 (M.getD i noM3).2.2 := rfl
   rw [hO] at hJ hF
   simp -implicitDefEqProofs only [mkE, go_sem, mvs3_len, nat_lt hi, dec_lt hi, hx, mv3]
   refine CO.intro (hI _) ?_
   generalize largeB (M.getD i noM3).1 (M.getD i noM3).2.1 (M.getD i noM3).2.2 = b1 at hJ hF
   cases b1 with
   | false =>
     simp -implicitDefEqProofs only [go_sem, hin]
     exact hJ rfl
   | true =>
     simp -implicitDefEqProofs only [go_sem]
     rw [hF rfl]
     exact Fini.ret rfl
 · intro hp J
   have hd : decide ((M.length : Int) < M.length) = false := by simp
   simp -implicitDefEqProofs only [mkE, go_sem, mvs3_len, hd]
   refine Fini.ret' rfl (bo_congr ?_)
   symm
   exact any_range_false fun i hi => by simpa using hp i hi
def holdsM (L : List Lab) (x : Mtr) : Bool := holdsB x.1 x.2.1 x.2.2 (getL L x.2.1)
def allHold (M : List Mtr) (L : List Lab) : Bool := (List.range M.length).all fun i => holdsM L (M.getD i noM3)
theorem dall_ans (σ : St) (M : List Mtr) (L : List Lab) (hM : M.length ≤ 1000) (hl : L.length ≤ 1000) (hs : ∀ x ∈ M, x.2.1.size ≤ 100000) (hL : ∀ nm, (getL L nm).size ≤ 100000) :
  Ans Tryz.prog 36 [.sl 3 (mvs3 M), .sl 2 (lvs L)] σ (Bo (allHold M L)) σ := by
 refine Ans.of_run t36 ?_
 simp -implicitDefEqProofs only [c36, r36, go_sem]
 refine Go.Ab.L.scan M.length (fun i => holdsM L (M.getD i noM3)) (fun i => mkE 19 [(0, .sl 3 (mvs3 M)), (1, .sl 2 (lvs L)), (5, I i)]) (fun _ => σ) ?_ ?_ rfl rfl
 · intro i hi hp J hJ
   have hF : holdsM L (M.getD i noM3) = false → allHold M L = false := fun h => List.all_eq_false.2 ⟨i, List.mem_range.2 hi, by show ¬ holdsM L (M.getD i noM3) = true; rw [h]; exact Bool.false_ne_true⟩
   have hx := mget_D M i hi
   have hsz : (M.getD i noM3).2.1.size ≤ 100000 := by
    rw [List.getD_eq_getElem?_getD, List.getElem?_eq_getElem hi]; exact hs _ (List.getElem_mem hi)
   have hin := wrap_nat (n := i) (by omega)
   have hI := fun σ => dholds_any σ (M.getD i noM3).1 (M.getD i noM3).2.1 (M.getD i noM3).2.2 L hl hsz (hL _)
   have hO : holdsM L (M.getD i noM3) = holdsB (M.getD i noM3).1 (M.getD i noM3).2.1 (M.getD i noM3).2.2 (getL L (M.getD i noM3).2.1) := rfl
   rw [hO] at hJ hF
   simp -implicitDefEqProofs only [mkE, go_sem, mvs3_len, nat_lt hi, dec_lt hi, hx, mv3]
   refine CO.intro (hI _) ?_
   generalize holdsB (M.getD i noM3).1 (M.getD i noM3).2.1 (M.getD i noM3).2.2 (getL L (M.getD i noM3).2.1) = b1 at hJ hF
   cases b1 with
   | true =>
     simp -implicitDefEqProofs only [go_sem, hin]
     exact hJ rfl
   | false =>
     simp -implicitDefEqProofs only [go_sem]
     rw [hF rfl]
     exact Fini.ret rfl
 · intro hp J
   have hd : decide ((M.length : Int) < M.length) = false := by simp
   simp -implicitDefEqProofs only [mkE, go_sem, mvs3_len, hd]
   refine Fini.ret' rfl (bo_congr ?_)
   exact (List.all_eq_true.2 fun i hi => hp i (List.mem_range.1 hi)).symm
theorem mcontains_ans (σ : St) (M : List Mtr) (g : FuncId) (fs cs : List AV) (p : Mtr → Bool) (h : ∀ x, Ans Tryz.prog g (fs ++ [mv3 x] ++ cs) σ (Bo (p x)) σ) (hM : M.length ≤ 1000) :
  Ans Tryz.prog 54 [.sl 3 (mvs3 M), .fn g fs cs] σ (Bo ((List.range M.length).any fun i => p (M.getD i noM3))) σ := by
 obtain ⟨r, hr, hp⟩ : ∃ r : Int, decide (0 ≤ r) = ((List.range M.length).any fun i => p (M.getD i noM3)) ∧ Ans Tryz.prog 76 [.sl 3 (mvs3 M), .fn g fs cs] σ (I r) σ := by
  have h1 : ∀ x : Mtr, Ans Tryz.prog g (fs ++ [mat x.1 x.2.1 x.2.2] ++ cs) σ (Bo (p x)) σ := h
  cases hf : (List.range M.length).find? fun i => p (M.getD i noM3) with
  | none =>
    have hn := List.find?_eq_none.1 hf
    refine ⟨-1, ?_, ?_⟩
    · rw [any_range_false fun i hi => by simpa using hn i (List.mem_range.2 hi)]; rfl
    · refine Ans.of_run t76 ?_
      simp -implicitDefEqProofs only [c76, r76, go_sem, mvs3_len]
      refine Go.Ab.L.count M.length (fun i => mkE 19 [(0, .sl 3 (mvs3 M)), (1, .fn g fs cs), (7, I M.length), (8, I i)]) (fun _ => σ) ?_ ?_ rfl rfl
      · intro i hi J hJ
        have hx := mget_D M i hi
        have hin := wrap_nat (n := i) (by omega)
        have hb : p (M.getD i noM3) = false := by simpa using hn i (List.mem_range.2 hi)
        have h2 := h1 (M.getD i noM3)
        rw [hb] at h2
        simp -implicitDefEqProofs only [mkE, go_sem, mvs3_len, nat_lt hi, dec_lt hi, hx, mv3]
        refine CO.intro h2 ?_
        simp -implicitDefEqProofs only [go_sem, hin]
        exact hJ
      · intro J
        have hd : ((M.length : Int) < M.length) = False := by simp
        simp -implicitDefEqProofs only [mkE, go_sem, mvs3_len, hd]
        exact Fini.ret rfl
  | some k =>
    have hk := List.find?_some hf
    have hkm := List.mem_range.1 (List.mem_of_find?_eq_some hf)
    have hlt : ∀ j, j < k → p (M.getD j noM3) = false := fun j hj => by
     have := (List.find?_range_eq_some.1 hf).2.2 j hj
     simpa using this
    refine ⟨k, ?_, ?_⟩
    · rw [any_range_true (i := k) hkm hk]; simp
    · refine Ans.of_run t76 ?_
      simp -implicitDefEqProofs only [c76, r76, go_sem, mvs3_len]
      refine Go.Ab.L.count k (fun i => mkE 19 [(0, .sl 3 (mvs3 M)), (1, .fn g fs cs), (7, I M.length), (8, I i)]) (fun _ => σ) ?_ ?_ rfl rfl
      · intro i hi J hJ
        have hi' : i < M.length := by omega
        have hx := mget_D M i hi'
        have hin := wrap_nat (n := i) (by omega)
        have h2 := h1 (M.getD i noM3)
        rw [hlt i hi] at h2
        simp -implicitDefEqProofs only [mkE, go_sem, mvs3_len, nat_lt hi', dec_lt hi', hx, mv3]
        refine CO.intro h2 ?_
        simp -implicitDefEqProofs only [go_sem, hin]
        exact hJ
      · intro J
        have hx := mget_D M k hkm
        have h2 := h1 (M.getD k noM3)
        have hk' : p (M.getD k noM3) = true := hk
        rw [hk'] at h2
        simp -implicitDefEqProofs only [mkE, go_sem, mvs3_len, nat_lt hkm, dec_lt hkm, hx, mv3]
        refine CO.intro h2 ?_
        simp -implicitDefEqProofs only [go_sem]
        exact Fini.ret rfl
 rw [← hr]
 refine Ans.of_run t54 ?_
 simp -implicitDefEqProofs only [c54, r54, go_sem]
 refine CO.intro hp ?_
 simp -implicitDefEqProofs only [go_sem]
 exact Fini.ret rfl
end Go.Proofs.YtoadgajhkhejiaaGreat
namespace Go.Proofs.YtoadgajhkhejiaaGreat
open Go Go.Ab Go.ChangeShapes Go.WideShapes Go.ChangeAt Go.RowKit
set_option maxRecDepth 100000
theorem anylarge_ans (σ : St) (M : List Mtr) (hM : M.length ≤ 1000) : Ans Tryz.prog 31 [.sl 3 (mvs3 M)] σ (Bo (anyLarge M)) σ := by
 refine Ans.of_run t31 ?_
 simp -implicitDefEqProofs only [c31, r31, go_sem]
 refine CO.intro (mcontains_ans σ M 55 [] [] largeM (fun x => large_any σ x.1 x.2.1 x.2.2) hM) ?_
 simp -implicitDefEqProofs only [go_sem]
 exact Fini.ret rfl
theorem nothold_ans (σ : St) (L : List Lab) (hl : L.length ≤ 1000) (hL : ∀ nm, (getL L nm).size ≤ 100000) (x : Mtr) : Ans Tryz.prog 57 [mv3 x, .rp [.sl 2 (lvs L)]] σ (Bo (!holdsM L x)) σ := by
 have h := holds_any σ x.1 x.2.1 x.2.2 (.sl 2 (lvs L)) (getL L x.2.1) (fun σ => get_ans σ L x.2.1 hl) (hL _)
 refine Ans.of_run t57 ?_
 unfold holdsM
 simp -implicitDefEqProofs only [c57, r57, go_sem, mv3]
 refine CO.intro h ?_
 simp -implicitDefEqProofs only [go_sem]
 exact Fini.ret rfl
theorem all_any (σ : St) (M : List Mtr) (L : List Lab) (hM : M.length ≤ 1000) (hl : L.length ≤ 1000) (hL : ∀ nm, (getL L nm).size ≤ 100000) : Ans Tryz.prog 34 [.sl 3 (mvs3 M), .sl 2 (lvs L)] σ (Bo (allHold M L)) σ := by
 have h := mcontains_ans σ M 57 [] [.rp [.sl 2 (lvs L)]] (fun x => !holdsM L x) (fun x => nothold_ans σ L hl hL x) hM
 have he : (!((List.range M.length).any fun i => !holdsM L (M.getD i noM3))) = allHold M L := by
  unfold allHold
  rw [List.not_any_eq_all_not]; simp
 rw [← he]
 refine Ans.of_run t34 ?_
 simp -implicitDefEqProofs only [c34, r34, go_sem]
 refine CO.intro h ?_
 simp -implicitDefEqProofs only [go_sem]
 exact Fini.ret rfl
end Go.Proofs.YtoadgajhkhejiaaGreat
namespace Go.Proofs.YtoadgajhkhejiaaGreat
open Go Go.Ab
set_option maxRecDepth 100000
def c5 : ACode :=
 (.seq (.ops [⟨some 2, none, .prim (.boxr (.tmp 0))⟩,
 ⟨some 4, none, .prim (.mov (.const (.int .i64 0)))⟩])
 (.seq (.ops [⟨some 7, none, .prim (.fadr 0 (.tmp 2))⟩,
 ⟨some 8, none, .prim (.load 1 false (.tmp 7))⟩,
 ⟨some 9, none, .prim (.mov (.tmp 1))⟩,
 ⟨some 10, none, .call (.func 21) [(.tmp 8), (.tmp 9)]⟩,
 ⟨some 5, none, .prim (.mov (.tmp 10))⟩])
 (.seq (.seq (.ops [⟨some 11, none, .prim (.mov (.tmp 5))⟩,
 ⟨some 12, none, .prim (.mov (.tmp 1))⟩,
 ⟨some 13, none, .prim (.bin false .leq (.tmp 11) (.tmp 12))⟩])
 (.cond (.tmp 13)
 (.ops [⟨some 14, none, .prim (.mov (.tmp 5))⟩,
 ⟨some 15, none, .prim (.fadr 1 (.tmp 2))⟩,
 ⟨some 16, none, .prim (.load 1 false (.tmp 15))⟩,
 ⟨some 17, none, .prim (.mov (.tmp 1))⟩,
 ⟨some 18, none, .call (.func 21) [(.tmp 16), (.tmp 17)]⟩,
 ⟨some 19, none, .prim (.bin false .add (.tmp 14) (.tmp 18))⟩,
 ⟨some 5, none, .prim (.mov (.tmp 19))⟩])
 .skip))
 (.seq (.seq (.ops [⟨some 6, none, .prim (.mov (.const (.int .i64 0)))⟩])
 (.block 0 (.loop [0, 3, 4, 7, 8, 9, 10, 11, 12, 13, 14, 15, 16, 17, 18, 19, 20, 21, 22, 23, 24, 25, 26, 27, 28, 29, 30, 31, 32, 33, 34, 35, 36, 37, 38, 39, 40, 41, 42, 43, 44, 45, 46, 47, 48, 49, 50, 51, 52, 53, 54] (.seq (.seq (.ops [⟨some 20, none, .prim (.mov (.tmp 6))⟩,
 ⟨some 21, none, .prim (.fadr 5 (.tmp 2))⟩,
 ⟨some 22, none, .prim (.load 1 false (.tmp 21))⟩,
 ⟨some 23, none, .prim (.lenv (.tmp 22))⟩,
 ⟨some 24, none, .prim (.bin false .lss (.tmp 20) (.tmp 23))⟩,
 ⟨some 25, none, .prim (.mov (.tmp 24))⟩,
 ⟨some 26, (some (25, true)), .prim (.mov (.tmp 5))⟩,
 ⟨some 27, (some (25, true)), .prim (.mov (.tmp 1))⟩,
 ⟨some 28, (some (25, true)), .prim (.bin false .leq (.tmp 26) (.tmp 27))⟩,
 ⟨some 29, none, .prim (.pick (.tmp 25) (.tmp 28) (.const (.bool false)))⟩])
 (.cond (.tmp 29)
 .skip
 (.exit 0)))
 (.seq (.block 1 (.seq (.seq (.ops [⟨some 32, none, .prim (.fadr 5 (.tmp 2))⟩,
 ⟨some 33, none, .prim (.load 1 false (.tmp 32))⟩,
 ⟨some 34, none, .prim (.mov (.tmp 6))⟩,
 ⟨some 35, none, .prim (.iadrs 1 (.tmp 33) (.tmp 34))⟩,
 ⟨some 36, none, .prim (.load 1 false (.tmp 35))⟩,
 ⟨some 37, none, .prim (.lens (.tmp 36))⟩,
 ⟨some 38, none, .prim (.mov (.tmp 1))⟩,
 ⟨some 39, none, .prim (.bin false .gtr (.tmp 37) (.tmp 38))⟩])
 (.cond (.tmp 39)
 (.seq (.ops [⟨some 40, none, .prim (.mov (.tmp 1))⟩,
 ⟨some 41, none, .prim (.bin false .add (.tmp 40) (.const (.int .i64 1)))⟩,
 ⟨some 4, none, .prim (.mov (.tmp 41))⟩])
 .ret)
 .skip))
 (.ops [⟨some 42, none, .prim (.mov (.tmp 5))⟩,
 ⟨some 43, none, .prim (.bin false .add (.tmp 42) (.const (.int .i64 1)))⟩,
 ⟨some 44, none, .prim (.fadr 5 (.tmp 2))⟩,
 ⟨some 45, none, .prim (.load 1 false (.tmp 44))⟩,
 ⟨some 46, none, .prim (.mov (.tmp 6))⟩,
 ⟨some 47, none, .prim (.iadrs 1 (.tmp 45) (.tmp 46))⟩,
 ⟨some 48, none, .prim (.load 1 false (.tmp 47))⟩,
 ⟨some 49, none, .prim (.lens (.tmp 48))⟩,
 ⟨some 50, none, .prim (.bin false .add (.tmp 43) (.tmp 49))⟩,
 ⟨some 5, none, .prim (.mov (.tmp 50))⟩])))
 (.ops [⟨some 30, none, .prim (.mov (.tmp 6))⟩,
 ⟨some 31, none, .prim (.bin false .add (.tmp 30) (.const (.int .i64 1)))⟩,
 ⟨some 6, none, .prim (.mov (.tmp 31))⟩]))))))
 (.seq (.ops [⟨some 51, none, .prim (.mov (.tmp 5))⟩,
 ⟨some 52, none, .prim (.mov (.tmp 1))⟩,
 ⟨some 53, none, .prim (.bin false .add (.tmp 52) (.const (.int .i64 1)))⟩,
 ⟨some 54, none, .prim (.mm false (.tmp 51) (.tmp 53))⟩,
 ⟨some 4, none, .prim (.mov (.tmp 54))⟩])
 .ret)))))
def o5 : List Tmp := []
def r5 : List RV := [.tmp 4]
theorem t5 : Text Tryz.prog 5 o5 c5 r5 55 := ⟨⟨Tryz.f5, _, by kernel_rfl, by kernel_rfl, rfl, by kernel_rfl, by kernel_rfl, rfl⟩, by kernel_rfl⟩
def c7 : ACode :=
 (.seq (.ops [⟨some 1, none, .prim (.boxr (.tmp 0))⟩,
 ⟨some 2, none, .prim (.allocm [.pl (.int .i64 0), .nils, .pl (.float .f64 0)])⟩])
 (.seq (.draw [⟨⟨some 3, none, .prim (.fadr 0 (.tmp 1))⟩, [], false, 0, 0⟩,
 ⟨⟨some 4, none, .prim (.load 1 false (.tmp 3))⟩, [0], false, 0, 0⟩,
 ⟨⟨some 5, none, .call (.func 24) [(.tmp 4)]⟩, [0, 1], true, 0, 0⟩,
 ⟨⟨some 6, none, .prim (.fadr 1 (.tmp 1))⟩, [], false, 0, 1⟩,
 ⟨⟨some 7, none, .prim (.load 1 false (.tmp 6))⟩, [3], false, 0, 1⟩,
 ⟨⟨some 8, none, .prim (.build [.pl (.int .i64 0), .nils, .pl (.float .f64 0)] [(1, 1, (.tmp 5)), (2, 1, (.tmp 7))])⟩, [0, 1, 2, 3, 4], false, 1, 1⟩,
 ⟨⟨none, none, .prim (.store 3 (.tmp 2) (.tmp 8))⟩, (List.range 6), true, 0, 0⟩])
 .ret))
def o7 : List Tmp := [2]
def r7 : List RV := [.cell 2 3 true]
theorem t7 : Text Tryz.prog 7 o7 c7 r7 9 := ⟨⟨Tryz.f7, _, by kernel_rfl, by kernel_rfl, rfl, by kernel_rfl, by kernel_rfl, rfl⟩, by kernel_rfl⟩
def c8 : ACode :=
 (.seq (.ops [⟨some 1, none, .prim (.boxr (.tmp 0))⟩,
 ⟨some 2, none, .prim (.mov (.const (.bool false)))⟩])
 (.seq (.seq (.ops [⟨some 5, none, .prim (.fadr 0 (.tmp 1))⟩,
 ⟨some 6, none, .prim (.load 1 false (.tmp 5))⟩,
 ⟨some 7, none, .prim (.lenv (.tmp 6))⟩,
 ⟨some 8, none, .prim (.bin false .eql (.tmp 7) (.const (.int .i64 0)))⟩,
 ⟨some 9, none, .prim (.mov (.tmp 8))⟩,
 ⟨some 10, (some (9, false)), .prim (.fadr 1 (.tmp 1))⟩,
 ⟨some 11, (some (9, false)), .prim (.load 1 false (.tmp 10))⟩,
 ⟨some 12, (some (9, false)), .prim (.lenv (.tmp 11))⟩,
 ⟨some 13, (some (9, false)), .prim (.bin false .eql (.tmp 12) (.const (.int .i64 0)))⟩,
 ⟨some 14, none, .prim (.pick (.tmp 9) (.const (.bool true)) (.tmp 13))⟩,
 ⟨some 15, none, .prim (.mov (.tmp 14))⟩,
 ⟨some 16, (some (15, false)), .prim (.fadr 0 (.tmp 1))⟩,
 ⟨some 17, (some (15, false)), .prim (.load 1 false (.tmp 16))⟩,
 ⟨some 18, (some (15, false)), .call (.func 25) [(.tmp 17)]⟩,
 ⟨some 19, (some (15, false)), .prim (.un .not (.tmp 18))⟩,
 ⟨some 20, none, .prim (.pick (.tmp 15) (.const (.bool true)) (.tmp 19))⟩,
 ⟨some 21, none, .prim (.mov (.tmp 20))⟩,
 ⟨some 22, (some (21, false)), .prim (.fadr 1 (.tmp 1))⟩,
 ⟨some 23, (some (21, false)), .prim (.load 1 false (.tmp 22))⟩,
 ⟨some 24, (some (21, false)), .call (.func 25) [(.tmp 23)]⟩,
 ⟨some 25, (some (21, false)), .prim (.un .not (.tmp 24))⟩,
 ⟨some 26, none, .prim (.pick (.tmp 21) (.const (.bool true)) (.tmp 25))⟩,
 ⟨some 27, none, .prim (.mov (.tmp 26))⟩,
 ⟨some 28, (some (27, false)), .prim (.fadr 2 (.tmp 1))⟩,
 ⟨some 29, (some (27, false)), .prim (.load 3 true (.tmp 28))⟩,
 ⟨some 30, (some (27, false)), .call (.func 26) [(.tmp 29)]⟩,
 ⟨some 31, (some (27, false)), .prim (.un .not (.tmp 30))⟩,
 ⟨some 32, none, .prim (.pick (.tmp 27) (.const (.bool true)) (.tmp 31))⟩,
 ⟨some 33, none, .prim (.mov (.tmp 32))⟩,
 ⟨some 34, (some (33, false)), .prim (.fadr 5 (.tmp 1))⟩,
 ⟨some 35, (some (33, false)), .prim (.load 1 false (.tmp 34))⟩,
 ⟨some 36, (some (33, false)), .prim (.lenv (.tmp 35))⟩,
 ⟨some 37, (some (33, false)), .prim (.bin false .gtr (.tmp 36) (.const (.int .i64 4)))⟩,
 ⟨some 38, none, .prim (.pick (.tmp 33) (.const (.bool true)) (.tmp 37))⟩])
 (.cond (.tmp 38)
 (.seq (.ops [⟨some 2, none, .prim (.mov (.const (.bool false)))⟩])
 .ret)
 .skip))
 (.seq (.seq (.ops [⟨some 39, none, .prim (.fadr 5 (.tmp 1))⟩,
 ⟨some 40, none, .prim (.load 1 false (.tmp 39))⟩,
 ⟨some 41, none, .prim (.lenv (.tmp 40))⟩,
 ⟨some 42, none, .prim (.mov (.const (.int .i64 0)))⟩])
 (.block 0 (.loop [0, 2, 3, 4, 5, 6, 7, 8, 9, 10, 11, 12, 13, 14, 15, 16, 17, 18, 19, 20, 21, 22, 23, 24, 25, 26, 27, 28, 29, 30, 31, 32, 33, 34, 35, 36, 37, 38, 39, 43, 44, 45, 46, 47, 48, 49, 50, 51, 52, 53, 54, 55, 56, 57, 58, 59, 60, 61, 62, 63, 64] (.seq (.ops [⟨some 43, none, .prim (.bin false .lss (.tmp 42) (.tmp 41))⟩])
 (.seq (.cond (.tmp 43)
 .skip
 (.exit 0))
 (.seq (.block 1 (.seq (.ops [⟨some 44, none, .prim (.mov (.tmp 42))⟩,
 ⟨some 45, none, .prim (.iadrs 1 (.tmp 40) (.tmp 42))⟩,
 ⟨some 46, none, .prim (.load 1 false (.tmp 45))⟩,
 ⟨some 3, none, .prim (.mov (.tmp 44))⟩,
 ⟨some 4, none, .prim (.mov (.tmp 46))⟩])
 (.seq (.ops [⟨some 47, none, .prim (.mov (.tmp 4))⟩,
 ⟨some 48, none, .call (.func 27) [(.tmp 47)]⟩,
 ⟨some 49, none, .prim (.un .not (.tmp 48))⟩,
 ⟨some 50, none, .prim (.mov (.tmp 49))⟩,
 ⟨some 51, (some (50, false)), .prim (.mov (.tmp 3))⟩,
 ⟨some 52, (some (50, false)), .prim (.bin false .gtr (.tmp 51) (.const (.int .i64 0)))⟩,
 ⟨some 53, (some (50, false)), .prim (.mov (.tmp 52))⟩,
 ⟨some 54, (some (53, true)), .prim (.mov (.tmp 4))⟩,
 ⟨some 55, (some (53, true)), .prim (.fadr 5 (.tmp 1))⟩,
 ⟨some 56, (some (53, true)), .prim (.load 1 false (.tmp 55))⟩,
 ⟨some 57, (some (53, true)), .prim (.mov (.tmp 3))⟩,
 ⟨some 58, (some (53, true)), .prim (.bin false .sub (.tmp 57) (.const (.int .i64 1)))⟩,
 ⟨some 59, (some (53, true)), .prim (.iadrs 1 (.tmp 56) (.tmp 58))⟩,
 ⟨some 60, (some (53, true)), .prim (.load 1 false (.tmp 59))⟩,
 ⟨some 61, (some (53, true)), .prim (.bin false .leq (.tmp 54) (.tmp 60))⟩,
 ⟨some 62, (some (50, false)), .prim (.pick (.tmp 53) (.tmp 61) (.const (.bool false)))⟩,
 ⟨some 63, none, .prim (.pick (.tmp 50) (.const (.bool true)) (.tmp 62))⟩])
 (.cond (.tmp 63)
 (.seq (.ops [⟨some 2, none, .prim (.mov (.const (.bool false)))⟩])
 .ret)
 .skip))))
 (.ops [⟨some 64, none, .prim (.bin false .add (.tmp 42) (.const (.int .i64 1)))⟩,
 ⟨some 42, none, .prim (.mov (.tmp 64))⟩])))))))
 (.seq (.ops [⟨some 2, none, .prim (.mov (.const (.bool true)))⟩])
 .ret))))
def o8 : List Tmp := []
def r8 : List RV := [.tmp 2]
theorem t8 : Text Tryz.prog 8 o8 c8 r8 65 := ⟨⟨Tryz.f8, _, by kernel_rfl, by kernel_rfl, rfl, by kernel_rfl, by kernel_rfl, rfl⟩, by kernel_rfl⟩
def c10 : ACode :=
 (.seq (.ops [⟨some 1, none, .prim (.boxr (.tmp 0))⟩,
 ⟨some 2, none, .prim (.mov (.const (.bool false)))⟩])
 (.seq (.ops [⟨some 3, none, .prim (.load 6 true (.tmp 1))⟩,
 ⟨some 4, none, .call (.func 8) [(.tmp 3)]⟩,
 ⟨some 5, none, .prim (.mov (.tmp 4))⟩,
 ⟨some 6, (some (5, true)), .prim (.fadr 0 (.tmp 1))⟩,
 ⟨some 7, (some (5, true)), .prim (.load 1 false (.tmp 6))⟩,
 ⟨some 8, (some (5, true)), .call (.func 31) [(.tmp 7)]⟩,
 ⟨some 9, (some (5, true)), .prim (.mov (.tmp 8))⟩,
 ⟨some 10, (some (9, false)), .prim (.fadr 1 (.tmp 1))⟩,
 ⟨some 11, (some (9, false)), .prim (.load 1 false (.tmp 10))⟩,
 ⟨some 12, (some (9, false)), .call (.func 31) [(.tmp 11)]⟩,
 ⟨some 13, (some (5, true)), .prim (.pick (.tmp 9) (.const (.bool true)) (.tmp 12))⟩,
 ⟨some 14, none, .prim (.pick (.tmp 5) (.tmp 13) (.const (.bool false)))⟩,
 ⟨some 2, none, .prim (.mov (.tmp 14))⟩])
 .ret))
def o10 : List Tmp := []
def r10 : List RV := [.tmp 2]
theorem t10 : Text Tryz.prog 10 o10 c10 r10 15 := ⟨⟨Tryz.f10, _, by kernel_rfl, by kernel_rfl, rfl, by kernel_rfl, by kernel_rfl, rfl⟩, by kernel_rfl⟩
def c12 : ACode :=
 (.seq (.ops [⟨some 2, none, .prim (.boxr (.tmp 0))⟩,
 ⟨some 3, none, .prim (.boxr (.tmp 1))⟩,
 ⟨some 4, none, .prim (.mov (.const (.bool false)))⟩])
 (.seq (.ops [⟨some 5, none, .prim (.load 6 true (.tmp 2))⟩,
 ⟨some 6, none, .call (.func 33) [(.tmp 5)]⟩,
 ⟨some 7, none, .prim (.mov (.tmp 6))⟩,
 ⟨some 8, (some (7, true)), .prim (.fadr 0 (.tmp 2))⟩,
 ⟨some 9, (some (7, true)), .prim (.load 1 false (.tmp 8))⟩,
 ⟨some 10, (some (7, true)), .prim (.fadr 1 (.tmp 3))⟩,
 ⟨some 11, (some (7, true)), .prim (.load 1 false (.tmp 10))⟩,
 ⟨some 12, (some (7, true)), .call (.func 34) [(.tmp 9), (.tmp 11)]⟩,
 ⟨some 13, none, .prim (.pick (.tmp 7) (.tmp 12) (.const (.bool false)))⟩,
 ⟨some 14, none, .prim (.mov (.tmp 13))⟩,
 ⟨some 15, (some (14, true)), .prim (.fadr 2 (.tmp 2))⟩,
 ⟨some 16, (some (14, true)), .prim (.load 3 true (.tmp 15))⟩,
 ⟨some 17, (some (14, true)), .prim (.fadr 2 (.tmp 3))⟩,
 ⟨some 18, (some (14, true)), .prim (.load 1 false (.tmp 17))⟩,
 ⟨some 19, (some (14, true)), .call (.func 35) [(.tmp 16), (.tmp 18)]⟩,
 ⟨some 20, none, .prim (.pick (.tmp 14) (.tmp 19) (.const (.bool false)))⟩,
 ⟨some 4, none, .prim (.mov (.tmp 20))⟩])
 .ret))
def o12 : List Tmp := []
def r12 : List RV := [.tmp 4]
theorem t12 : Text Tryz.prog 12 o12 c12 r12 21 := ⟨⟨Tryz.f12, _, by kernel_rfl, by kernel_rfl, rfl, by kernel_rfl, by kernel_rfl, rfl⟩, by kernel_rfl⟩
def c14 : ACode :=
 (.seq (.ops [⟨some 2, none, .prim (.boxr (.tmp 0))⟩,
 ⟨some 3, none, .prim (.boxr (.tmp 1))⟩,
 ⟨some 4, none, .prim (.mov (.const (.bool false)))⟩])
 (.seq (.ops [⟨some 5, none, .prim (.load 6 true (.tmp 2))⟩,
 ⟨some 6, none, .call (.func 33) [(.tmp 5)]⟩,
 ⟨some 7, none, .prim (.mov (.tmp 6))⟩,
 ⟨some 8, (some (7, true)), .prim (.fadr 1 (.tmp 2))⟩,
 ⟨some 9, (some (7, true)), .prim (.load 1 false (.tmp 8))⟩,
 ⟨some 10, (some (7, true)), .prim (.fadr 1 (.tmp 3))⟩,
 ⟨some 11, (some (7, true)), .prim (.load 1 false (.tmp 10))⟩,
 ⟨some 12, (some (7, true)), .call (.func 34) [(.tmp 9), (.tmp 11)]⟩,
 ⟨some 13, none, .prim (.pick (.tmp 7) (.tmp 12) (.const (.bool false)))⟩,
 ⟨some 4, none, .prim (.mov (.tmp 13))⟩])
 .ret))
def o14 : List Tmp := []
def r14 : List RV := [.tmp 4]
theorem t14 : Text Tryz.prog 14 o14 c14 r14 14 := ⟨⟨Tryz.f14, _, by kernel_rfl, by kernel_rfl, rfl, by kernel_rfl, by kernel_rfl, rfl⟩, by kernel_rfl⟩
def c16 : ACode :=
 (.seq (.ops [⟨some 2, none, .prim (.boxr (.tmp 0))⟩,
 ⟨some 3, none, .prim (.boxr (.tmp 1))⟩,
 ⟨some 4, none, .prim (.mov (.const (.string (ByteArray.mk #[]))))⟩])
 (.seq (.ops [⟨some 5, none, .prim (.fadr 1 (.tmp 3))⟩,
 ⟨some 6, none, .prim (.load 1 false (.tmp 5))⟩,
 ⟨some 7, none, .prim (.fadr 5 (.tmp 2))⟩,
 ⟨some 8, none, .prim (.load 1 false (.tmp 7))⟩,
 ⟨some 9, none, .call (.func 38) [(.tmp 6), (.tmp 8)]⟩,
 ⟨some 4, none, .prim (.mov (.tmp 9))⟩])
 .ret))
def o16 : List Tmp := []
def r16 : List RV := [.tmp 4]
theorem t16 : Text Tryz.prog 16 o16 c16 r16 10 := ⟨⟨Tryz.f16, _, by kernel_rfl, by kernel_rfl, rfl, by kernel_rfl, by kernel_rfl, rfl⟩, by kernel_rfl⟩
def c19 : ACode :=
 (.seq (.ops [⟨some 3, none, .prim (.boxr (.tmp 0))⟩,
 ⟨some 4, none, .prim (.boxr (.tmp 1))⟩,
 ⟨some 5, none, .prim (.boxr (.tmp 2))⟩,
 ⟨some 6, none, .prim (.mov (.const (.bool false)))⟩])
 (.seq (.draw [⟨⟨some 7, none, .prim (.load 6 true (.tmp 3))⟩, [], false, 0, 0⟩,
 ⟨⟨some 8, none, .prim (.load 3 true (.tmp 5))⟩, [], false, 0, 0⟩,
 ⟨⟨some 9, none, .call (.func 14) [(.tmp 7), (.tmp 8)]⟩, [0, 1], true, 0, 0⟩,
 ⟨⟨some 10, none, .prim (.mov (.tmp 9))⟩, [0, 1, 2], false, 1, 1⟩,
 ⟨⟨some 11, (some (10, true)), .prim (.load 6 true (.tmp 3))⟩, [0, 1, 2, 3], false, 1, 1⟩,
 ⟨⟨some 12, (some (10, true)), .prim (.load 3 true (.tmp 4))⟩, [0, 1, 2, 3], false, 1, 1⟩,
 ⟨⟨some 13, (some (10, true)), .call (.func 12) [(.tmp 11), (.tmp 12)]⟩, (List.range 6), true, 0, 0⟩,
 ⟨⟨some 14, none, .prim (.pick (.tmp 10) (.tmp 13) (.const (.bool false)))⟩, (List.range 7), false, 2, 2⟩,
 ⟨⟨some 15, none, .prim (.mov (.tmp 14))⟩, (List.range 8), false, 2, 2⟩,
 ⟨⟨some 16, (some (15, true)), .prim (.load 6 true (.tmp 3))⟩, (List.range 9), false, 2, 2⟩,
 ⟨⟨some 17, (some (15, true)), .prim (.load 3 true (.tmp 5))⟩, (List.range 9), false, 2, 2⟩,
 ⟨⟨some 18, (some (15, true)), .call (.func 12) [(.tmp 16), (.tmp 17)]⟩, (List.range 11), true, 0, 0⟩,
 ⟨⟨some 19, (some (15, true)), .prim (.un .not (.tmp 18))⟩, (List.range 12), false, 3, 3⟩,
 ⟨⟨some 20, none, .prim (.pick (.tmp 15) (.tmp 19) (.const (.bool false)))⟩, (List.range 13), false, 3, 3⟩,
 ⟨⟨some 21, none, .prim (.mov (.tmp 20))⟩, (List.range 14), false, 3, 3⟩,
 ⟨⟨some 22, (some (21, true)), .prim (.load 6 true (.tmp 3))⟩, (List.range 15), false, 3, 3⟩,
 ⟨⟨some 23, (some (21, true)), .prim (.load 3 true (.tmp 4))⟩, (List.range 15), false, 3, 3⟩,
 ⟨⟨some 24, (some (21, true)), .call (.func 16) [(.tmp 22), (.tmp 23)]⟩, (List.range 17), true, 0, 0⟩,
 ⟨⟨some 25, (some (21, true)), .prim (.load 6 true (.tmp 3))⟩, (List.range 15), false, 3, 4⟩,
 ⟨⟨some 26, (some (21, true)), .prim (.load 3 true (.tmp 5))⟩, (List.range 15), false, 3, 4⟩,
 ⟨⟨some 27, (some (21, true)), .call (.func 16) [(.tmp 25), (.tmp 26)]⟩, (List.range 20), true, 0, 0⟩,
 ⟨⟨some 28, (some (21, true)), .prim (.bin false .eql (.tmp 24) (.tmp 27))⟩, (List.range 21), false, 5, 5⟩,
 ⟨⟨some 29, none, .prim (.pick (.tmp 21) (.tmp 28) (.const (.bool false)))⟩, (List.range 22), false, 5, 5⟩,
 ⟨⟨some 6, none, .prim (.mov (.tmp 29))⟩, (List.range 23), false, 5, 5⟩])
 .ret))
def o19 : List Tmp := []
def r19 : List RV := [.tmp 6]
theorem t19 : Text Tryz.prog 19 o19 c19 r19 30 := ⟨⟨Tryz.f19, _, by kernel_rfl, by kernel_rfl, rfl, by kernel_rfl, by kernel_rfl, rfl⟩, by kernel_rfl⟩
def c26 : ACode :=
 (.seq (.ops [⟨some 1, none, .prim (.boxr (.tmp 0))⟩,
 ⟨some 2, none, .prim (.mov (.const (.bool false)))⟩])
 (.seq (.seq (.ops [⟨some 3, none, .prim (.fadr 0 (.tmp 1))⟩,
 ⟨some 4, none, .prim (.load 1 false (.tmp 3))⟩])
 (.cond (.tmp 4)
 (.seq (.ops [⟨some 5, none, .prim (.fadr 1 (.tmp 1))⟩,
 ⟨some 6, none, .prim (.load 1 false (.tmp 5))⟩,
 ⟨some 7, none, .call (.func 49) [(.tmp 6)]⟩,
 ⟨some 8, none, .prim (.bin false .eql (.tmp 7) (.const (.int .u64 0)))⟩,
 ⟨some 9, none, .prim (.mov (.tmp 8))⟩,
 ⟨some 10, (some (9, true)), .prim (.fadr 2 (.tmp 1))⟩,
 ⟨some 11, (some (9, true)), .prim (.load 1 false (.tmp 10))⟩,
 ⟨some 12, (some (9, true)), .call (.func 49) [(.tmp 11)]⟩,
 ⟨some 13, (some (9, true)), .prim (.bin false .eql (.tmp 12) (.const (.int .u64 0)))⟩,
 ⟨some 14, none, .prim (.pick (.tmp 9) (.tmp 13) (.const (.bool false)))⟩,
 ⟨some 2, none, .prim (.mov (.tmp 14))⟩])
 .ret)
 .skip))
 (.seq (.ops [⟨some 15, none, .prim (.fadr 1 (.tmp 1))⟩,
 ⟨some 16, none, .prim (.load 1 false (.tmp 15))⟩,
 ⟨some 17, none, .prim (.fadr 2 (.tmp 1))⟩,
 ⟨some 18, none, .prim (.load 1 false (.tmp 17))⟩,
 ⟨some 19, none, .prim (.bin false .leq (.tmp 16) (.tmp 18))⟩,
 ⟨some 2, none, .prim (.mov (.tmp 19))⟩])
 .ret)))
def o26 : List Tmp := []
def r26 : List RV := [.tmp 2]
theorem t26 : Text Tryz.prog 26 o26 c26 r26 20 := ⟨⟨Tryz.f26, _, by kernel_rfl, by kernel_rfl, rfl, by kernel_rfl, by kernel_rfl, rfl⟩, by kernel_rfl⟩
def c33 : ACode :=
 (.seq (.ops [⟨some 1, none, .prim (.boxr (.tmp 0))⟩,
 ⟨some 2, none, .prim (.mov (.const (.bool false)))⟩])
 (.seq (.ops [⟨some 3, none, .prim (.load 6 true (.tmp 1))⟩,
 ⟨some 4, none, .call (.func 8) [(.tmp 3)]⟩,
 ⟨some 5, none, .prim (.mov (.tmp 4))⟩,
 ⟨some 6, (some (5, true)), .prim (.load 6 true (.tmp 1))⟩,
 ⟨some 7, (some (5, true)), .call (.func 10) [(.tmp 6)]⟩,
 ⟨some 8, (some (5, true)), .prim (.un .not (.tmp 7))⟩,
 ⟨some 9, none, .prim (.pick (.tmp 5) (.tmp 8) (.const (.bool false)))⟩,
 ⟨some 2, none, .prim (.mov (.tmp 9))⟩])
 .ret))
def o33 : List Tmp := []
def r33 : List RV := [.tmp 2]
theorem t33 : Text Tryz.prog 33 o33 c33 r33 10 := ⟨⟨Tryz.f33, _, by kernel_rfl, by kernel_rfl, rfl, by kernel_rfl, by kernel_rfl, rfl⟩, by kernel_rfl⟩
def c35 : ACode :=
 (.seq (.ops [⟨some 2, none, .prim (.boxr (.tmp 0))⟩,
 ⟨some 4, none, .prim (.mov (.const (.bool false)))⟩])
 (.seq (.ops [⟨some 5, none, .prim (.load 3 true (.tmp 2))⟩,
 ⟨some 6, none, .call (.func 26) [(.tmp 5)]⟩,
 ⟨some 7, none, .prim (.mov (.tmp 6))⟩,
 ⟨some 8, (some (7, true)), .prim (.fadr 0 (.tmp 2))⟩,
 ⟨some 9, (some (7, true)), .prim (.load 1 false (.tmp 8))⟩,
 ⟨some 10, (some (7, true)), .prim (.mov (.tmp 9))⟩,
 ⟨some 11, (some (10, false)), .prim (.fadr 1 (.tmp 2))⟩,
 ⟨some 12, (some (10, false)), .prim (.load 1 false (.tmp 11))⟩,
 ⟨some 13, (some (10, false)), .prim (.mov (.tmp 1))⟩,
 ⟨some 14, (some (10, false)), .prim (.bin false .leq (.tmp 12) (.tmp 13))⟩,
 ⟨some 15, (some (10, false)), .prim (.mov (.tmp 14))⟩,
 ⟨some 16, (some (15, true)), .prim (.mov (.tmp 1))⟩,
 ⟨some 17, (some (15, true)), .prim (.fadr 2 (.tmp 2))⟩,
 ⟨some 18, (some (15, true)), .prim (.load 1 false (.tmp 17))⟩,
 ⟨some 19, (some (15, true)), .prim (.bin false .leq (.tmp 16) (.tmp 18))⟩,
 ⟨some 20, (some (10, false)), .prim (.pick (.tmp 15) (.tmp 19) (.const (.bool false)))⟩,
 ⟨some 21, (some (7, true)), .prim (.pick (.tmp 10) (.const (.bool true)) (.tmp 20))⟩,
 ⟨some 22, none, .prim (.pick (.tmp 7) (.tmp 21) (.const (.bool false)))⟩,
 ⟨some 4, none, .prim (.mov (.tmp 22))⟩])
 .ret))
def o35 : List Tmp := []
def r35 : List RV := [.tmp 4]
theorem t35 : Text Tryz.prog 35 o35 c35 r35 23 := ⟨⟨Tryz.f35, _, by kernel_rfl, by kernel_rfl, rfl, by kernel_rfl, by kernel_rfl, rfl⟩, by kernel_rfl⟩
def c38 : ACode :=
 (.seq (.ops [⟨some 4, none, .prim (.mov (.const (.string (ByteArray.mk #[]))))⟩])
 (.seq (.after (.ops [⟨some 5, none, .prim (.mov (.const (.slice none 0 0)))⟩]) (.own 5 1))
 (.seq (.seq (.ops [⟨some 8, none, .prim (.mov (.tmp 1))⟩,
 ⟨some 9, none, .prim (.lenv (.tmp 8))⟩,
 ⟨some 10, none, .prim (.mov (.const (.int .i64 0)))⟩])
 (.block 0 (.loop [1, 2, 3, 4, 6, 7, 11, 12, 13, 14, 15, 16, 17, 18, 19, 20, 21, 22] (.seq (.ops [⟨some 11, none, .prim (.bin false .lss (.tmp 10) (.tmp 9))⟩])
 (.seq (.cond (.tmp 11)
 .skip
 (.exit 0))
 (.seq (.block 1 (.seq (.ops [⟨some 12, none, .prim (.iadrs 1 (.tmp 8) (.tmp 10))⟩,
 ⟨some 13, none, .prim (.load 1 false (.tmp 12))⟩,
 ⟨some 7, none, .prim (.mov (.tmp 13))⟩])
 (.ops [⟨some 14, none, .prim (.mov (.tmp 5))⟩,
 ⟨some 15, none, .prim (.mov (.tmp 0))⟩,
 ⟨some 16, none, .prim (.mov (.tmp 7))⟩,
 ⟨some 17, none, .call (.func 61) [(.tmp 15), (.tmp 16)]⟩,
 ⟨some 18, none, .call (.func 60) [(.tmp 17)]⟩,
 ⟨some 19, none, .prim (.app 1 (.tmp 14) (.tmp 18))⟩,
 ⟨some 5, none, .prim (.mov (.tmp 19))⟩])))
 (.ops [⟨some 20, none, .prim (.bin false .add (.tmp 10) (.const (.int .i64 1)))⟩,
 ⟨some 10, none, .prim (.mov (.tmp 20))⟩])))))))
 (.seq (.ops [⟨some 21, none, .prim (.mov (.tmp 5))⟩,
 ⟨some 22, none, .prim (.b2s (.tmp 21))⟩,
 ⟨some 4, none, .prim (.mov (.tmp 22))⟩])
 .ret))))
def o38 : List Tmp := []
def r38 : List RV := [.tmp 4]
theorem t38 : Text Tryz.prog 38 o38 c38 r38 23 := ⟨⟨Tryz.f38, _, by kernel_rfl, by kernel_rfl, rfl, by kernel_rfl, by kernel_rfl, rfl⟩, by kernel_rfl⟩
def c42 : ACode :=
 (.seq (.ops [⟨some 1, none, .prim (.boxr (.tmp 0))⟩,
 ⟨some 2, none, .prim (.allocm [.pl (.bool false), .pl (.float .f64 0), .pl (.float .f64 0)])⟩])
 (.seq (.ops [⟨some 4, none, .prim (.fadr 1 (.tmp 1))⟩,
 ⟨some 5, none, .prim (.load 1 false (.tmp 4))⟩,
 ⟨some 6, none, .prim (.fadr 2 (.tmp 1))⟩,
 ⟨some 7, none, .prim (.load 1 false (.tmp 6))⟩,
 ⟨some 8, none, .prim (.build [.pl (.bool false), .pl (.float .f64 0), .pl (.float .f64 0)] [(1, 1, (.tmp 5)), (2, 1, (.tmp 7))])⟩,
 ⟨some 3, none, .prim (.allocm [.pl (.bool false), .pl (.float .f64 0), .pl (.float .f64 0)])⟩,
 ⟨none, none, .prim (.store 3 (.tmp 3) (.tmp 8))⟩])
 (.seq (.seq (.ops [⟨some 9, none, .prim (.fadr 0 (.tmp 1))⟩,
 ⟨some 10, none, .prim (.load 1 false (.tmp 9))⟩,
 ⟨some 11, none, .prim (.bin false .rem (.tmp 10) (.const (.int .i64 3)))⟩,
 ⟨some 12, none, .prim (.bin false .eql (.tmp 11) (.const (.int .i64 0)))⟩,
 ⟨some 13, none, .prim (.mov (.tmp 12))⟩,
 ⟨some 14, (some (13, false)), .prim (.fadr 1 (.tmp 3))⟩,
 ⟨some 15, (some (13, false)), .prim (.load 1 false (.tmp 14))⟩,
 ⟨some 16, (some (13, false)), .prim (.fadr 1 (.tmp 3))⟩,
 ⟨some 17, (some (13, false)), .prim (.load 1 false (.tmp 16))⟩,
 ⟨some 18, (some (13, false)), .prim (.bin false .neq (.tmp 15) (.tmp 17))⟩,
 ⟨some 19, none, .prim (.pick (.tmp 13) (.const (.bool true)) (.tmp 18))⟩,
 ⟨some 20, none, .prim (.mov (.tmp 19))⟩,
 ⟨some 21, (some (20, false)), .prim (.fadr 2 (.tmp 3))⟩,
 ⟨some 22, (some (20, false)), .prim (.load 1 false (.tmp 21))⟩,
 ⟨some 23, (some (20, false)), .prim (.fadr 2 (.tmp 3))⟩,
 ⟨some 24, (some (20, false)), .prim (.load 1 false (.tmp 23))⟩,
 ⟨some 25, (some (20, false)), .prim (.bin false .neq (.tmp 22) (.tmp 24))⟩,
 ⟨some 26, none, .prim (.pick (.tmp 20) (.const (.bool true)) (.tmp 25))⟩])
 (.cond (.tmp 26)
 (.seq (.ops [⟨some 27, none, .prim (.build [.pl (.bool false), .pl (.float .f64 0), .pl (.float .f64 0)] [(0, 1, (.const (.bool true)))])⟩,
 ⟨none, none, .prim (.store 3 (.tmp 2) (.tmp 27))⟩])
 .ret)
 .skip))
 (.seq (.seq (.ops [⟨some 28, none, .prim (.fadr 2 (.tmp 3))⟩,
 ⟨some 29, none, .prim (.load 1 false (.tmp 28))⟩,
 ⟨some 30, none, .prim (.fadr 1 (.tmp 3))⟩,
 ⟨some 31, none, .prim (.load 1 false (.tmp 30))⟩,
 ⟨some 32, none, .prim (.bin false .lss (.tmp 29) (.tmp 31))⟩])
 (.cond (.tmp 32)
 (.ops [⟨some 33, none, .prim (.fadr 2 (.tmp 3))⟩,
 ⟨some 34, none, .prim (.load 1 false (.tmp 33))⟩,
 ⟨some 35, none, .prim (.fadr 1 (.tmp 3))⟩,
 ⟨some 36, none, .prim (.load 1 false (.tmp 35))⟩,
 ⟨some 37, none, .prim (.fadr 1 (.tmp 3))⟩,
 ⟨none, none, .prim (.store 1 (.tmp 37) (.tmp 34))⟩,
 ⟨some 38, none, .prim (.fadr 2 (.tmp 3))⟩,
 ⟨none, none, .prim (.store 1 (.tmp 38) (.tmp 36))⟩])
 .skip))
 (.seq (.ops [⟨some 39, none, .prim (.load 3 true (.tmp 3))⟩,
 ⟨none, none, .prim (.store 3 (.tmp 2) (.tmp 39))⟩])
 .ret)))))
def o42 : List Tmp := [2, 3]
def r42 : List RV := [.cell 2 3 true]
theorem t42 : Text Tryz.prog 42 o42 c42 r42 40 := ⟨⟨Tryz.f42, _, by kernel_rfl, by kernel_rfl, rfl, by kernel_rfl, by kernel_rfl, rfl⟩, by kernel_rfl⟩
def c49 : ACode :=
 (.seq (.ops [⟨some 2, none, .prim (.mov (.const (.int .u64 0)))⟩])
 (.seq (.seq (.ops [⟨some 3, none, .prim (.mov (.tmp 0))⟩,
 ⟨some 4, none, .call (.func 72) [(.tmp 3)]⟩])
 (.cond (.tmp 4)
 (.seq (.ops [⟨some 2, none, .prim (.mov (.const (.int .u64 9221120237041090561)))⟩])
 .ret)
 .skip))
 (.seq (.ops [⟨some 5, none, .prim (.mov (.tmp 0))⟩,
 ⟨some 6, none, .call (.func 73) [(.tmp 5)]⟩,
 ⟨some 2, none, .prim (.mov (.tmp 6))⟩])
 .ret)))
def o49 : List Tmp := []
def r49 : List RV := [.tmp 2]
theorem t49 : Text Tryz.prog 49 o49 c49 r49 7 := ⟨⟨Tryz.f49, _, by kernel_rfl, by kernel_rfl, rfl, by kernel_rfl, by kernel_rfl, rfl⟩, by kernel_rfl⟩
end Go.Proofs.YtoadgajhkhejiaaGreat
namespace Go.Proofs.YtoadgajhkhejiaaGreat
open Go Go.Ab
set_option maxRecDepth 100000
def c39 : ACode :=
 (.seq (.ops [⟨some 2, none, .prim (.mov (.const (.slice none 0 0)))⟩])
 (.seq (.ops [⟨some 3, none, .prim (.mov (.tmp 0))⟩,
 ⟨some 4, none, .prim (.lens (.tmp 3))⟩,
 ⟨some 5, none, .prim (.convi .u64 (.tmp 4))⟩,
 ⟨some 6, none, .call (.func 62) [(.tmp 5)]⟩,
 ⟨some 7, none, .prim (.mov (.tmp 0))⟩,
 ⟨some 8, none, .prim (.app 1 (.tmp 6) (.tmp 7))⟩,
 ⟨some 2, none, .prim (.mov (.tmp 8))⟩])
 (.ghost (.shut 2) .ret)))
def o39 : List Tmp := []
def r39 : List RV := [.tmp 2]
theorem t39 : Text Tryz.prog 39 o39 c39 r39 9 := ⟨⟨Tryz.f39, _, by kernel_rfl, by kernel_rfl, rfl, by kernel_rfl, by kernel_rfl, rfl⟩, by kernel_rfl⟩
def c60 : ACode :=
 (.seq (.ops [⟨some 2, none, .prim (.mov (.const (.slice none 0 0)))⟩])
 (.seq (.ops [⟨some 3, none, .prim (.mov (.tmp 0))⟩,
 ⟨some 4, none, .prim (.lens (.tmp 3))⟩,
 ⟨some 5, none, .prim (.convi .u64 (.tmp 4))⟩,
 ⟨some 6, none, .call (.func 81) [(.tmp 5)]⟩,
 ⟨some 7, none, .prim (.mov (.tmp 0))⟩,
 ⟨some 8, none, .prim (.app 1 (.tmp 6) (.tmp 7))⟩,
 ⟨some 2, none, .prim (.mov (.tmp 8))⟩])
 (.ghost (.shut 2) .ret)))
def o60 : List Tmp := []
def r60 : List RV := [.tmp 2]
theorem t60 : Text Tryz.prog 60 o60 c60 r60 9 := ⟨⟨Tryz.f60, _, by kernel_rfl, by kernel_rfl, rfl, by kernel_rfl, by kernel_rfl, rfl⟩, by kernel_rfl⟩
def c62 : ACode :=
 (.seq (.ops [⟨some 2, none, .prim (.mov (.const (.slice none 0 0)))⟩])
 (.seq (.after (.ops [⟨some 3, none, .prim (.mov (.const (.slice none 0 0)))⟩]) (.own 3 1))
 (.seq (.block 0 (.loop [1, 2, 4, 5, 6, 7, 8, 9, 10, 11, 12, 13, 14, 15, 16, 17, 18, 19] (.seq (.seq (.ops [⟨some 4, none, .prim (.mov (.tmp 0))⟩,
 ⟨some 5, none, .prim (.bin false .geq (.tmp 4) (.const (.int .u64 128)))⟩])
 (.cond (.tmp 5)
 .skip
 (.exit 0)))
 (.block 1 (.seq (.ops [⟨some 6, none, .prim (.mov (.tmp 3))⟩,
 ⟨some 7, none, .prim (.mov (.tmp 0))⟩,
 ⟨some 8, none, .prim (.bin false .rem (.tmp 7) (.const (.int .u64 128)))⟩,
 ⟨some 9, none, .prim (.convi .u8 (.tmp 8))⟩,
 ⟨some 10, none, .prim (.bin false .add (.tmp 9) (.const (.int .u8 128)))⟩,
 ⟨some 11, none, .prim (.bsl false 1 false 1 [.pl (.int .u8 0)] [(0, 1, (.tmp 10))])⟩,
 ⟨some 12, none, .prim (.app 1 (.tmp 6) (.tmp 11))⟩,
 ⟨some 3, none, .prim (.mov (.tmp 12))⟩])
 (.ops [⟨some 13, none, .prim (.mov (.tmp 0))⟩,
 ⟨some 14, none, .prim (.bin false .quo (.tmp 13) (.const (.int .u64 128)))⟩,
 ⟨some 0, none, .prim (.mov (.tmp 14))⟩]))))))
 (.seq (.ops [⟨some 15, none, .prim (.mov (.tmp 3))⟩,
 ⟨some 16, none, .prim (.mov (.tmp 0))⟩,
 ⟨some 17, none, .prim (.convi .u8 (.tmp 16))⟩,
 ⟨some 18, none, .prim (.bsl false 1 false 1 [.pl (.int .u8 0)] [(0, 1, (.tmp 17))])⟩,
 ⟨some 19, none, .prim (.app 1 (.tmp 15) (.tmp 18))⟩,
 ⟨some 2, none, .prim (.mov (.tmp 19))⟩])
 .ret))))
def o62 : List Tmp := []
def r62 : List RV := [.tmp 2]
theorem t62 : Text Tryz.prog 62 o62 c62 r62 20 := ⟨⟨Tryz.f62, _, by kernel_rfl, by kernel_rfl, rfl, by kernel_rfl, by kernel_rfl, rfl⟩, by kernel_rfl⟩
def c81 : ACode :=
 (.seq (.ops [⟨some 2, none, .prim (.mov (.const (.slice none 0 0)))⟩])
 (.seq (.after (.ops [⟨some 3, none, .prim (.mov (.const (.slice none 0 0)))⟩]) (.own 3 1))
 (.seq (.block 0 (.loop [1, 2, 4, 5, 6, 7, 8, 9, 10, 11, 12, 13, 14, 15, 16, 17, 18] (.seq (.seq (.ops [⟨some 4, none, .prim (.mov (.tmp 0))⟩,
 ⟨some 5, none, .prim (.bin false .geq (.tmp 4) (.const (.int .u64 128)))⟩])
 (.cond (.tmp 5)
 .skip
 (.exit 0)))
 (.block 1 (.seq (.ops [⟨some 6, none, .prim (.mov (.tmp 3))⟩,
 ⟨some 7, none, .prim (.mov (.tmp 0))⟩,
 ⟨some 8, none, .prim (.convi .u8 (.tmp 7))⟩,
 ⟨some 9, none, .prim (.bin false .or (.tmp 8) (.const (.int .u8 128)))⟩,
 ⟨some 10, none, .prim (.bsl false 1 false 1 [.pl (.int .u8 0)] [(0, 1, (.tmp 9))])⟩,
 ⟨some 11, none, .prim (.app 1 (.tmp 6) (.tmp 10))⟩,
 ⟨some 3, none, .prim (.mov (.tmp 11))⟩])
 (.ops [⟨some 12, none, .prim (.mov (.tmp 0))⟩,
 ⟨some 13, none, .prim (.bin false .shr (.tmp 12) (.const (.int .u64 7)))⟩,
 ⟨some 0, none, .prim (.mov (.tmp 13))⟩]))))))
 (.seq (.ops [⟨some 14, none, .prim (.mov (.tmp 3))⟩,
 ⟨some 15, none, .prim (.mov (.tmp 0))⟩,
 ⟨some 16, none, .prim (.convi .u8 (.tmp 15))⟩,
 ⟨some 17, none, .prim (.bsl false 1 false 1 [.pl (.int .u8 0)] [(0, 1, (.tmp 16))])⟩,
 ⟨some 18, none, .prim (.app 1 (.tmp 14) (.tmp 17))⟩,
 ⟨some 2, none, .prim (.mov (.tmp 18))⟩])
 .ret))))
def o81 : List Tmp := []
def r81 : List RV := [.tmp 2]
theorem t81 : Text Tryz.prog 81 o81 c81 r81 19 := ⟨⟨Tryz.f81, _, by kernel_rfl, by kernel_rfl, rfl, by kernel_rfl, by kernel_rfl, rfl⟩, by kernel_rfl⟩
end Go.Proofs.YtoadgajhkhejiaaGreat
namespace Go.Proofs.YtoadgajhkhejiaaGreat
open Go Go.Ab Go.Cod
set_option maxRecDepth 100000
abbrev UN (n : Nat) : AV := .pl (.int .u64 n)
def bc (c : UInt8) : AV := .pl (.int .u8 c.toNat)
def byv (b : Byt) : List AV := b.map bc
theorem byv_len (b : Byt) : (byv b).length = b.length := List.length_map ..
theorem byv_cons (c : UInt8) (b : Byt) : byv (c :: b) = bc c :: byv b := rfl
theorem byv_append (a b : Byt) : byv (a ++ b) = byv a ++ byv b := List.map_append ..
theorem byv_all' (b : Byt) (f : AV → Bool) (h : ∀ c : UInt8, f (bc c) = true) : (byv b).all f = true := by
 simp only [byv, List.all_map, List.all_eq_true]
 intro c _
 exact h c
theorem bel_bc (n : Nat) (c : UInt8) : Bel n (bc c) := .pl _
theorem bel_byv (n : Nat) (b : Byt) : Bel n (.sl 1 (byv b)) := .sl 1 _ fun i hi => by
 have : (byv b)[i] = bc (b[i]'(by rw [← byv_len]; exact hi)) := by simp [byv]
 rw [this]; exact bel_bc n _
theorem strA_byv (s : ByteArray) : (s.data.toList.map fun b => (AV.pl (.int .u8 b.toNat))) = byv s.data.toList := rfl
theorem byteL_byv : ∀ b : Byt, byteL (byv b) = some (b.map fun c => (c.toNat : Int))
 | [] => rfl
 | c :: b => by simp only [byv_cons, bc, byteL, byteL_byv b, Option.map_some, List.map_cons]
theorem textOf_byv (b : Byt) : textOf (b.map fun c => (c.toNat : Int)) = ⟨b.toArray⟩ := by
 unfold textOf
 congr 2
 rw [List.map_map]
 conv => rhs; rw [← List.map_id b]
 apply List.map_congr_left
 intro c _
 simp
theorem wrapUN {n : Nat} (h : n < 18446744073709551616) : IntKind.u64.wrap (n : Int) = (n : Int) := by
 simp only [IntKind.wrap, IntKind.bits, IntKind.signed]; simp; omega
theorem wrap8N {n : Nat} : IntKind.u8.wrap (n : Int) = ((n % 256 : Nat) : Int) := by
 simp only [IntKind.wrap, IntKind.bits, IntKind.signed]; simp
theorem or128 : ∀ m : Fin 256, IntKind.u8.wrap ((BitVec.ofInt 8 (m.val : Int) ||| BitVec.ofInt 8 128).toNat : Int) = ((m.val % 128 + 128 : Nat) : Int) := by decide +kernel
theorem bc_of {n : Nat} (h : n < 256) : AV.pl (.int .u8 n) = bc n.toUInt8 := by
 rw [bc, toNat_toUInt8 h]
theorem row1 (σ : St) (x : Ob) : (σ ++ [x])[σ.length]? = some x := by simp
theorem shr7 (n : Nat) : ((n : Int).fdiv (2 ^ min (7 : Int).toNat 64)) = ((n / 128 : Nat) : Int) := by
 have : (min (7 : Int).toNat 64) = 7 := rfl
 rw [this]
 rw [Int.fdiv_eq_ediv_of_nonneg _ (by decide)]
 rfl
theorem putN_len : ∀ (k n : Nat), n < 128 ^ (k + 1) → (putN n).length ≤ k + 1
 | 0, n, h => by rw [putN_lt (by simpa using h)]; simp
 | k + 1, n, h => by
   by_cases h1 : n < 128
   · rw [putN_lt h1]; simp
   · rw [putN_ge h1, List.length_cons]
     have := putN_len k (n / 128) (Nat.div_lt_of_lt_mul (by rw [Nat.pow_succ, Nat.mul_comm] at h; exact h))
     omega
theorem putN_len10 {n : Nat} (h : n < 18446744073709551616) : (putN n).length ≤ 10 := putN_len 9 n (Nat.lt_of_lt_of_le h (by decide))
theorem u8_or' (n : Nat) : IntKind.u8.wrap ((BitVec.ofInt 8 (((n % 256 : Nat) : Int)) ||| BitVec.ofInt 8 128).toNat : Int) = ((n % 128 + 128 : Nat) : Int) := by
 have := or128 ⟨n % 256, Nat.mod_lt _ (by decide)⟩
 simp only [show (n % 256) % 128 = n % 128 by omega] at this
 exact this
theorem u8_or (n : Nat) : IntKind.u8.wrap ((BitVec.ofInt IntKind.u8.bits (((n % 256 : Nat) : Int)) ||| BitVec.ofInt IntKind.u8.bits 128).toNat : Int) = ((n % 128 + 128 : Nat) : Int) := u8_or' n
theorem intle (a b : Nat) : decide ((a : Int) ≤ (b : Int)) = decide (a ≤ b) := by rw [Bool.eq_iff_iff]; simp
theorem Fini.ret3 {n m : Nat} {rvs : List RV} {r r' : AV} {σ σ' : St} {env : Env} (h : resA env σ rvs = some r') (e : r' = r) (e' : σ = σ') : Fini m rvs r σ' .ret env σ := by
 subst e; subst e'; exact Fini.ret h
section
variable (σ : St)
theorem put_ans (n : Nat) (hn : n < 18446744073709551616) : Ans Tryz.prog 81 [UN n] σ (.osl σ.length (putN n).length) (σ ++ [.row 1 (byv (putN n))]) := by
 have h10 := putN_len10 hn
 refine Ans.of_run t81 ?_
 simp -implicitDefEqProofs only [c81, r81, go_sem]
 refine Go.Ab.L.intro (α := { p : Nat × Byt // p.1 < 18446744073709551616 ∧ p.2 ++ putN p.1 = putN n }) (fun p => p.1.1) (fun p => mkE 19 [(0, UN p.1.1), (3, .osl σ.length p.1.2.length)]) (fun p => σ ++ [.row 1 (byv p.1.2)]) ?_ ⟨(n, []), hn, rfl⟩ rfl rfl
 rintro ⟨⟨m, pre⟩, hm, hp⟩ J hJ
 have hl : pre.length + (putN m).length ≤ 10 := by rw [← List.length_append, hp]; exact h10
 have hx : ∀ c : Int, (byv pre ++ [AV.pl (.int .u8 c)]).length = pre.length + 1 := fun c => by simp [byv_len]
 have d0 := intle 128 m
 simp only [Int.cast_ofNat_Int] at d0
 have hw := wrapUN hm
 have hle : pre.length + 1 ≤ 2 ^ 32 := by omega
 by_cases h : m < 128
 · have d1 : decide ((128 : Int) ≤ m) = false := by simp; omega
   have d2 : IntKind.u8.wrap (m : Int) = m := by rw [wrap8N]; congr 1; omega
   simp -implicitDefEqProofs only [mkE, go_sem, d1, row1, byv_len, List.length_singleton, hle, d2]
   refine Fini.ret3 (n := 0) rfl ?_ ?_
   · show AV.osl σ.length (pre.length + 1) = AV.osl σ.length (putN n).length
     rw [← hp, putN_lt h]; simp
   · rw [List.set_append_right _ _ (Nat.le_refl _)]
     simp only [Nat.sub_self, List.set_cons_zero]
     rw [← hp, byv_append, putN_lt h, bc_of (show m < 256 by omega)]
     rfl
 · have d1 : decide ((128 : Int) ≤ m) = true := by simp; omega
   simp -implicitDefEqProofs only [mkE, go_sem, d1, row1, byv_len, List.length_singleton, hle, wrap8N (n := m), u8_or, u8_or', shr7, wrapUN (show m / 128 < 18446744073709551616 by omega)]
   rw [List.set_append_right _ _ (Nat.le_refl _)]
   simp only [Nat.sub_self, List.set_cons_zero]
   have hgo := hJ ⟨(m / 128, pre ++ [(m % 128 + 128).toUInt8]), by simp only; omega, by
    rw [← hp]; simp only [List.append_assoc, List.singleton_append]; rw [putN_ge h]⟩ (by simp only; omega)
   simp only [byv_append, List.length_append, List.length_singleton] at hgo
   have key : ∀ v : Int, v = ((m % 128 + 128 : Nat) : Int) → J (mkE 19 [(0, UN (m / 128)), (3, .osl σ.length (pre.length + 1))]) (σ ++ [Ob.row 1 (byv pre ++ [AV.pl (.int .u8 v)])]) := by
    rintro _ rfl
    rw [bc_of (show m % 128 + 128 < 256 by omega)]
    exact hgo
   exact key _ (u8_or' m)
theorem puttext_ans (s : ByteArray) (hs : s.size ≤ 4294967280) : Ans Tryz.prog 60 [Sx s] σ (.sl 1 (byv (txtB s))) σ := by
 have h10 := putN_len10 (n := s.size) (by omega)
 have hsz := size_list s
 have hw := wrapUN (n := s.size) (by omega)
 have hle : (putN s.size).length + s.size ≤ 2 ^ 32 := by omega
 refine Ans.of_run' t60 (fun hbel _ => ?_)
 simp -implicitDefEqProofs only [c60, r60, go_sem, hw]
 refine CO.intro (put_ans σ s.size (by omega)) ?_
 simp -implicitDefEqProofs only [go_sem, strA_byv, row1, byv_len, hsz, hle]
 simp -implicitDefEqProofs only [go_sem, g0, s0, byv_len, hsz, ← byv_append, List.length_append]
 exact Fini.trim2 (σ' := σ) (by show _ = some (AV.sl 1 (byv (txtB s))); rfl) rfl (Nat.le_refl _) (bel_byv _ _) hbel
end
end Go.Proofs.YtoadgajhkhejiaaGreat
namespace Go.Proofs.YtoadgajhkhejiaaGreat
open Go Go.Ab Go.Cod
set_option maxRecDepth 100000
theorem decNN (a b : Nat) : decide ((a : Int) < (b : Int)) = decide (a < b) := by rw [Bool.eq_iff_iff]; simp
section
variable (σ : St)
end
section
variable (σ : St) (p : Nat) (b : Byt) (q : Nat × Bool)
end
end Go.Proofs.YtoadgajhkhejiaaGreat
namespace Go.Proofs.YtoadgajhkhejiaaGreat
open Go Go.Ab Go.Cod
set_option maxRecDepth 100000
abbrev Fl (n : Nat) : AV := .pl (.float .f64 n)
structure RuM where
 src : List Mtr
 tgt : List Mtr
 any : Bool
 lo : Nat
 hi : Nat
 eq : List ByteArray
def txs (l : List ByteArray) : List AV := l.map fun s => Sx s
def ruV (r : RuM) : AV := .agg [.sl 3 (mvs3 r.src), .sl 3 (mvs3 r.tgt), Bo r.any, Fl r.lo, Fl r.hi, .sl 1 (txs r.eq)]
theorem txs_len (l : List ByteArray) : (txs l).length = l.length := List.length_map ..
theorem txs_get (l : List ByteArray) (i : Nat) (h : i < l.length) : (txs l)[i]? = some (Sx l[i]) := by simp [txs, h]
theorem txs_D (l : List ByteArray) (i : Nat) (h : i < l.length) : (txs l)[i]? = some (Sx (l.getD i ⟨#[]⟩)) := by
 rw [txs_get l i h, List.getD_eq_getElem?_getD, List.getElem?_eq_getElem h]; rfl
def leF (a b : Nat) : Bool := FloatKind.f64.format.order a b == some .lt || FloatKind.f64.format.order a b == some .eq
theorem leF_def (a b : Nat) : (FloatKind.f64.format.order a b == some .lt || FloatKind.f64.format.order a b == some .eq) = leF a b := rfl
def nanF (a : Nat) : Bool := FloatKind.f64.format.order a a != some .eq
theorem nanF_def (a : Nat) : (FloatKind.f64.format.order a a != some .eq) = nanF a := rfl
def bitsF (a : Nat) : Nat := if nanF a then 9221120237041090561 else a
def mayB (any : Bool) (lo hi : Nat) : Bool := if any then (((bitsF lo : Nat) : Int) == 0) && (((bitsF hi : Nat) : Int) == 0) else leF lo hi
def inBd (any : Bool) (lo hi v : Nat) : Bool := mayB any lo hi && (any || (leF lo v && leF v hi))
def eqOk (e : List ByteArray) (i : Nat) : Bool := nameB (e.getD i ⟨#[]⟩) && !(decide (0 < i) && leS (e.getD i ⟨#[]⟩) (e.getD (i - 1) ⟨#[]⟩))
def eqB (e : List ByteArray) : Bool := decide (e.length ≤ 4) && (List.range e.length).all (eqOk e)
def ruIs (r : RuM) : Bool := !(((r.src.length : Nat) : Int) == 0) && (!(((r.tgt.length : Nat) : Int) == 0) && (listB r.src && (listB r.tgt && (mayB r.any r.lo r.hi && eqB r.eq))))
def ruLarge (r : RuM) : Bool := ruIs r && (anyLarge r.src || anyLarge r.tgt)
def ruWorks (r : RuM) : Bool := ruIs r && !ruLarge r
def ruSrc (r : RuM) (L : List Lab) (v : Nat) : Bool := ruWorks r && (allHold r.src L && inBd r.any r.lo r.hi v)
def ruTgt (r : RuM) (L : List Lab) : Bool := ruWorks r && allHold r.tgt L
def keyL (L : List Lab) (e : List ByteArray) : Byt := e.flatMap fun n => txtB (getL L n)
def alV (k : Int) (L : List Lab) (v : Nat) : AV := .agg [I k, .sl 2 (lvs L), Fl v]
theorem listB_len {M : List Mtr} (h : listB M = true) : M.length ≤ 5 := by
 unfold listB at h
 simp only [Bool.and_eq_true, decide_eq_true_eq] at h
 exact h.1
section
variable (σ : St)
theorem no_ans (a : Nat) : Ans Tryz.prog 72 [Fl a] σ (Bo (nanF a)) σ := by
 refine Ans.of_run t72 ?_
 simp -implicitDefEqProofs only [c72, r72, go_sem, nanF_def]
 exact Fini.ret rfl
theorem f64bits_ans (a : Nat) : Ans Tryz.prog 73 [Fl a] σ (UN a) σ := ext_bits.ok _ _ _ _ rfl
theorem bits_ans (a : Nat) : Ans Tryz.prog 49 [Fl a] σ (UN (bitsF a)) σ := by
 refine Ans.of_run t49 ?_
 simp -implicitDefEqProofs only [c49, r49, go_sem]
 refine CO.intro (no_ans σ a) ?_
 unfold bitsF
 cases nanF a with
 | true =>
   simp -implicitDefEqProofs only [go_sem]
   exact Fini.ret rfl
 | false =>
   simp -implicitDefEqProofs only [go_sem]
   refine CO.intro (f64bits_ans σ a) ?_
   simp -implicitDefEqProofs only [go_sem]
   exact Fini.ret rfl
theorem may_ans (any : Bool) (lo hi : Nat) : Ans Tryz.prog 26 [.agg [Bo any, Fl lo, Fl hi]] σ (Bo (mayB any lo hi)) σ := by
 refine Ans.of_run t26 ?_
 unfold mayB
 cases any with
 | true =>
   simp -implicitDefEqProofs only [c26, r26, go_sem]
   refine CO.intro (bits_ans σ lo) ?_
   cases h : (((bitsF lo : Nat) : Int) == 0) with
   | false =>
     simp -implicitDefEqProofs only [go_sem, h]
     exact Fini.ret rfl
   | true =>
     simp -implicitDefEqProofs only [go_sem, h]
     refine CO.intro (bits_ans σ hi) ?_
     simp -implicitDefEqProofs only [go_sem, h]
     exact Fini.ret rfl
 | false =>
   simp -implicitDefEqProofs only [c26, r26, go_sem, leF_def]
   exact Fini.ret rfl
theorem inbd_ans (any : Bool) (lo hi v : Nat) : Ans Tryz.prog 35 [.agg [Bo any, Fl lo, Fl hi], Fl v] σ (Bo (inBd any lo hi v)) σ := by
 refine Ans.of_run t35 ?_
 simp -implicitDefEqProofs only [c35, r35, go_sem]
 refine CO.intro (may_ans σ any lo hi) ?_
 unfold inBd
 cases h1 : mayB any lo hi with
 | false =>
   simp -implicitDefEqProofs only [go_sem]
   exact Fini.ret rfl
 | true =>
   cases any with
   | true =>
     simp -implicitDefEqProofs only [go_sem]
     exact Fini.ret rfl
   | false =>
     simp -implicitDefEqProofs only [go_sem, leF_def]
     cases h2 : leF lo v with
     | false =>
       simp -implicitDefEqProofs only [go_sem]
       exact Fini.ret rfl
     | true =>
       simp -implicitDefEqProofs only [go_sem, leF_def]
       exact Fini.ret rfl
theorem ruis_ans (r : RuM) : Ans Tryz.prog 8 [ruV r] σ (Bo (ruIs r)) σ := by
 obtain ⟨src, tgt, any, lo, hi, eq⟩ := r
 have d4 : decide ((4 : Int) < eq.length) = decide (4 < eq.length) := decNN 4 _
 refine Ans.of_run t8 ?_
 unfold ruIs ruV
 simp only
 cases h1 : (((src.length : Nat) : Int) == 0) with
 | true =>
   simp -implicitDefEqProofs only [c8, r8, go_sem, mvs3_len, h1]
   exact Fini.ret rfl
 | false =>
 cases h2 : (((tgt.length : Nat) : Int) == 0) with
 | true =>
   simp -implicitDefEqProofs only [c8, r8, go_sem, mvs3_len, h1, h2]
   exact Fini.ret rfl
 | false =>
 simp -implicitDefEqProofs only [c8, r8, go_sem, mvs3_len, h1, h2]
 refine CO.intro (list_any σ src) ?_
 cases h3 : listB src with
 | false =>
   simp -implicitDefEqProofs only [go_sem]
   exact Fini.ret rfl
 | true =>
 simp -implicitDefEqProofs only [go_sem]
 refine CO.intro (list_any σ tgt) ?_
 cases h4 : listB tgt with
 | false =>
   simp -implicitDefEqProofs only [go_sem]
   exact Fini.ret rfl
 | true =>
 simp -implicitDefEqProofs only [go_sem]
 refine CO.intro (may_ans σ any lo hi) ?_
 cases h5 : mayB any lo hi with
 | false =>
   simp -implicitDefEqProofs only [go_sem]
   exact Fini.ret rfl
 | true =>
 unfold eqB
 by_cases h6 : eq.length ≤ 4
 · have x4 : decide (4 < eq.length) = false := decide_eq_false (by omega)
   rw [decide_eq_true h6]
   simp -implicitDefEqProofs only [go_sem, txs_len, d4, x4]
   refine Go.Ab.L.scan eq.length (eqOk eq) (fun i => mkE 65 [(1, .rp [.sl 3 (mvs3 src), .sl 3 (mvs3 tgt), Bo any, Fl lo, Fl hi, .sl 1 (txs eq)]), (40, .sl 1 (txs eq)), (41, I eq.length), (42, I i)]) (fun _ => σ) ?_ ?_ rfl rfl
   · intro i hi hp J hJ
     have hx := txs_D eq i hi
     have hF : eqOk eq i = false → (List.range eq.length).all (eqOk eq) = false := fun h => List.all_eq_false.2 ⟨i, List.mem_range.2 hi, by rw [h]; decide⟩
     have hin := wrap_succ (i := i) (by omega)
     have d0 : decide ((0 : Int) < i) = decide (0 < i) := by rw [Bool.eq_iff_iff]; simp
     have hO : eqOk eq i = (nameB (eq.getD i ⟨#[]⟩) && !(decide (0 < i) && leS (eq.getD i ⟨#[]⟩) (eq.getD (i - 1) ⟨#[]⟩))) := rfl
     rw [hO] at hJ hF
     simp -implicitDefEqProofs only [mkE, go_sem, txs_len, nat_lt hi, dec_lt hi, hx]
     refine CO.intro (name_ans' σ _) ?_
     generalize eq.getD i ⟨#[]⟩ = s at hJ hF hx
     cases hb : nameB s with
     | false =>
       rw [hb] at hF
       rw [hF rfl]
       simp -implicitDefEqProofs only [go_sem]
       exact Fini.ret rfl
     | true =>
       rw [hb] at hJ hF
       by_cases hz : i = 0
       · subst hz
         have hgo := hJ rfl
         simp -implicitDefEqProofs only [go_sem, d0, hin]
         exact hgo
       · have hpos : decide (0 < i) = true := decide_eq_true (by omega)
         have hx1 := txs_D eq (i - 1) (by omega)
         have w1 : IntKind.i64.wrap ((i : Int) - 1) = ((i - 1 : Nat) : Int) := by rw [wrapN (by omega) (by omega)]; omega
         have hlt1 : (((i - 1 : Nat) : Int) < eq.length) = True := by simp; omega
         rw [hpos] at hJ hF
         generalize eq.getD (i - 1) ⟨#[]⟩ = s1 at hJ hF hx1
         have hle : (Op.bytesLess s.toList s1.toList || s.toList == s1.toList) = leS s s1 := rfl
         simp -implicitDefEqProofs only [go_sem, d0, hpos, w1, txs_len, hlt1, hx1, hle]
         cases h7 : leS s s1 with
         | true =>
           rw [h7] at hF
           rw [hF rfl]
           simp -implicitDefEqProofs only [go_sem]
           exact Fini.ret rfl
         | false =>
           rw [h7] at hJ
           have hgo := hJ rfl
           simp -implicitDefEqProofs only [go_sem, hin]
           exact hgo
   · intro hp J
     have hd : decide ((eq.length : Int) < eq.length) = false := by simp
     simp -implicitDefEqProofs only [mkE, go_sem, txs_len, hd]
     refine Fini.ret' rfl (bo_congr ?_)
     exact (List.all_eq_true.2 fun i hi => hp i (List.mem_range.1 hi)).symm
 · have x4 : decide (4 < eq.length) = true := decide_eq_true (by omega)
   rw [decide_eq_false h6]
   simp -implicitDefEqProofs only [go_sem, txs_len, d4, x4]
   exact Fini.ret rfl
theorem ruIs_len {r : RuM} (h : ruIs r = true) : listB r.src = true ∧ listB r.tgt = true ∧ eqB r.eq = true := by
 unfold ruIs at h
 simp only [Bool.and_eq_true] at h
 exact ⟨h.2.2.1, h.2.2.2.1, h.2.2.2.2.2⟩
theorem rularge_ans (r : RuM) : Ans Tryz.prog 10 [ruV r] σ (Bo (ruLarge r)) σ := by
 have hi := ruis_ans σ r
 refine Ans.of_run t10 ?_
 unfold ruLarge
 unfold ruV at hi ⊢
 simp -implicitDefEqProofs only [c10, r10, go_sem]
 refine CO.intro hi ?_
 cases h : ruIs r with
 | false =>
   simp -implicitDefEqProofs only [go_sem]
   exact Fini.ret rfl
 | true =>
   obtain ⟨h1, h2, _⟩ := ruIs_len h
   have l1 := (listB_len h1)
   have l2 := (listB_len h2)
   simp -implicitDefEqProofs only [go_sem]
   refine CO.intro (anylarge_ans σ r.src (by omega)) ?_
   cases h3 : anyLarge r.src with
   | true =>
     simp -implicitDefEqProofs only [go_sem]
     exact Fini.ret rfl
   | false =>
     simp -implicitDefEqProofs only [go_sem]
     refine CO.intro (anylarge_ans σ r.tgt (by omega)) ?_
     simp -implicitDefEqProofs only [go_sem]
     exact Fini.ret rfl
theorem ruworks_ans (r : RuM) : Ans Tryz.prog 33 [ruV r] σ (Bo (ruWorks r)) σ := by
 have hi := ruis_ans σ r
 have hl := rularge_ans σ r
 refine Ans.of_run t33 ?_
 unfold ruWorks
 unfold ruV at hi hl ⊢
 simp -implicitDefEqProofs only [c33, r33, go_sem]
 refine CO.intro hi ?_
 cases h : ruIs r with
 | false =>
   simp -implicitDefEqProofs only [go_sem]
   exact Fini.ret rfl
 | true =>
   simp -implicitDefEqProofs only [go_sem]
   refine CO.intro hl ?_
   simp -implicitDefEqProofs only [go_sem]
   exact Fini.ret rfl
theorem rusrc_ans (r : RuM) (k : Int) (L : List Lab) (v : Nat) (hl : L.length ≤ 1000) (hL : ∀ nm, (getL L nm).size ≤ 100000) : Ans Tryz.prog 12 [ruV r, alV k L v] σ (Bo (ruSrc r L v)) σ := by
 have hi := ruworks_ans σ r
 refine Ans.of_run t12 ?_
 unfold ruSrc
 unfold ruV at hi ⊢
 unfold alV
 simp -implicitDefEqProofs only [c12, r12, go_sem]
 refine CO.intro hi ?_
 cases h : ruWorks r with
 | false =>
   simp -implicitDefEqProofs only [go_sem]
   exact Fini.ret rfl
 | true =>
   have h0 : ruIs r = true := by unfold ruWorks at h; simp only [Bool.and_eq_true] at h; exact h.1
   have l1 := listB_len (ruIs_len h0).1
   simp -implicitDefEqProofs only [go_sem]
   refine CO.intro (all_any σ r.src L (by omega) hl hL) ?_
   cases h3 : allHold r.src L with
   | false =>
     simp -implicitDefEqProofs only [go_sem]
     exact Fini.ret rfl
   | true =>
     simp -implicitDefEqProofs only [go_sem]
     refine CO.intro (inbd_ans σ r.any r.lo r.hi v) ?_
     simp -implicitDefEqProofs only [go_sem]
     exact Fini.ret rfl
theorem rutgt_ans (r : RuM) (k : Int) (L : List Lab) (v : Nat) (hl : L.length ≤ 1000) (hL : ∀ nm, (getL L nm).size ≤ 100000) : Ans Tryz.prog 14 [ruV r, alV k L v] σ (Bo (ruTgt r L)) σ := by
 have hi := ruworks_ans σ r
 refine Ans.of_run t14 ?_
 unfold ruTgt
 unfold ruV at hi ⊢
 unfold alV
 simp -implicitDefEqProofs only [c14, r14, go_sem]
 refine CO.intro hi ?_
 cases h : ruWorks r with
 | false =>
   simp -implicitDefEqProofs only [go_sem]
   exact Fini.ret rfl
 | true =>
   have h0 : ruIs r = true := by unfold ruWorks at h; simp only [Bool.and_eq_true] at h; exact h.1
   have l1 := listB_len (ruIs_len h0).2.1
   simp -implicitDefEqProofs only [go_sem]
   refine CO.intro (all_any σ r.tgt L (by omega) hl hL) ?_
   simp -implicitDefEqProofs only [go_sem]
   exact Fini.ret rfl
end
end Go.Proofs.YtoadgajhkhejiaaGreat
namespace Go.Proofs.YtoadgajhkhejiaaGreat
open Go Go.Ab Go.Cod
set_option maxRecDepth 100000
theorem keyL_succ (L : List Lab) (e : List ByteArray) (i : Nat) (h : i < e.length) : keyL L (e.take (i + 1)) = keyL L (e.take i) ++ txtB (getL L e[i]) := by
 unfold keyL
 rw [List.take_succ_eq_append_getElem h, List.flatMap_append]
 simp
theorem txtB_len1 (s : ByteArray) (h : s.size ≤ 1000000) : (txtB s).length ≤ 10 + s.size := by
 have h10 := putN_len10 (n := s.size) (by omega)
 rw [txtB, List.length_append, size_list]
 omega
theorem keyL_len (L : List Lab) (e : List ByteArray) (hL : ∀ nm, (getL L nm).size ≤ 100000) : ∀ i, i ≤ e.length → (keyL L (e.take i)).length ≤ 100010 * i
 | 0, _ => by simp [keyL]
 | i + 1, hi => by
   have ih := keyL_len L e hL i (by omega)
   have h1 := hL e[i]
   have := txtB_len1 (getL L e[i]) (by omega)
   rw [keyL_succ L e i (by omega), List.length_append]
   omega
section
variable (σ : St)
theorem project_ans (L : List Lab) (e : List ByteArray) (hl : L.length ≤ 1000) (hL : ∀ nm, (getL L nm).size ≤ 100000) (he : e.length ≤ 1000) :
  Ans Tryz.prog 38 [.sl 2 (lvs L), .sl 1 (txs e)] σ (Sx ⟨(keyL L e).toArray⟩) σ := by
 have hkl := keyL_len L e hL
 refine Ans.of_run' t38 (fun hbel _ => ?_)
 simp -implicitDefEqProofs only [c38, r38, go_sem, txs_len]
 refine Go.Ab.L.count e.length (fun i => mkE 23 [(0, .sl 2 (lvs L)), (5, .osl σ.length (keyL L (e.take i)).length), (8, .sl 1 (txs e)), (9, I e.length), (10, I i)]) (fun i => σ ++ [.row 1 (byv (keyL L (e.take i)))]) ?_ ?_ rfl rfl
 · intro i hi J hJ
   have hx := txs_get e i hi
   have hb := hkl (i + 1) (by omega)
   rw [keyL_succ L e i hi] at hJ hb
   have hg := fun σ => get_ans σ L e[i] hl
   have hs := hL e[i]
   generalize getL L e[i] = w at hJ hb hg hs
   generalize keyL L (e.take i) = pre at hJ hb ⊢
   simp only [List.length_append] at hb
   have hin := wrap_succ (i := i) (by omega)
   have l1 : pre.length + (txtB w).length ≤ 4294967296 := by omega
   simp -implicitDefEqProofs only [mkE, go_sem, txs_len, nat_lt hi, dec_lt hi, hx]
   refine CO.intro (hg _) ?_
   simp -implicitDefEqProofs only [go_sem]
   refine CO.intro (puttext_ans _ w (by omega)) ?_
   simp -implicitDefEqProofs only [go_sem, g0, s0, byv_len, byv_all', bc, l1, hin]
   simp only [byv_append, List.length_append] at hJ
   exact hJ
 · intro J
   have hd : decide ((e.length : Int) < e.length) = false := by simp
   rw [List.take_length]
   simp -implicitDefEqProofs only [mkE, go_sem, hd, g0, s0, byv_len, byv_all', bc, byteL_byv, textOf_byv, AV.isStr]
   exact Fini.trim2 (σ' := σ) rfl rfl (Nat.le_refl _) (.pl _) hbel
theorem key_ans (r : RuM) (k : Int) (L : List Lab) (v : Nat) (hl : L.length ≤ 1000) (hL : ∀ nm, (getL L nm).size ≤ 100000) (he : r.eq.length ≤ 1000) :
  Ans Tryz.prog 16 [ruV r, alV k L v] σ (Sx ⟨(keyL L r.eq).toArray⟩) σ := by
 refine Ans.of_run t16 ?_
 unfold ruV alV
 simp -implicitDefEqProofs only [c16, r16, go_sem]
 refine CO.intro (project_ans σ L r.eq hl hL he) ?_
 simp -implicitDefEqProofs only [go_sem]
 exact Fini.ret rfl
end
end Go.Proofs.YtoadgajhkhejiaaGreat
namespace Go.Proofs.YtoadgajhkhejiaaGreat
open Go Go.Ab
set_option maxRecDepth 100000
def vals8 : List ByteArray := values ++ [⟨#[]⟩]
abbrev Mz := Int × ByteArray × ByteArray
abbrev dv (d : Int × Int × Int) : AV := .agg [I d.1, I d.2.1, I d.2.2]
section
variable (σ : St)
end
end Go.Proofs.YtoadgajhkhejiaaGreat
namespace Go.Proofs.YtoadgajhkhejiaaGreat
open Go Go.Ab
set_option maxRecDepth 100000
def allV : List ByteArray := vals8 ++ pats
instance : DecidableEq ByteArray := fun a b => decidable_of_iff (a.data = b.data) (by cases a; cases b; simp)
structure MOK (x : Mz) : Prop where
 lo : 1 ≤ x.1
 hi : x.1 ≤ 4
 nm : x.2.1 ∈ names
 low : x.1 < 3 → x.2.2 ∈ vals8
 high : ¬ x.1 < 3 → x.2.2 ∈ pats
theorem MOK.val {x : Mz} (h : MOK x) : x.2.2 ∈ allV := by
 unfold allV
 by_cases h3 : x.1 < 3
 · exact List.mem_append_left _ (h.low h3)
 · exact List.mem_append_right _ (h.high h3)
end Go.Proofs.YtoadgajhkhejiaaGreat
