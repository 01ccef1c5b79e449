/- Labels laid one behind the other; the key of an alert; who mutes whom. No condition. -/
import Derived.Test.YtoadgajhkhejiaaGreatYRu1
import Derived.Test.YtoadgajhkhejiaaGreatYPTree2
import Derived.Test.YtoadgajhkhejiaaGreatCod2
import Derived.Test.YtoadgajhkhejiaaGreatRows
import Derived.Test.YtoadgajhkhejiaaGreatYWt
set_option linter.unusedSimpArgs false
set_option linter.unusedVariables false
namespace Go.Proofs.YtoadgajhkhejiaaGreat
open Go Go.Ab Go.Cod
set_option maxRecDepth 100000
theorem keyL_succ (L : List Lab) (e : List ByteArray) (i : Nat) (h : i < e.length) : keyL L (e.take (i + 1)) = keyL L (e.take i) ++ txtB (getL L e[i]) := by
 unfold keyL
 rw [List.take_succ_eq_append_getElem h, List.flatMap_append]
 simp
theorem txtB_len1 (s : ByteArray) (h : s.size ≤ 1000000) : (txtB s).length ≤ 10 + s.size := by
 have h10 := putN_len10 (n := s.size) (by omega)
 rw [txtB, List.length_append, size_list]
 omega
theorem keyL_len (L : List Lab) (e : List ByteArray) (hL : ∀ nm, (getL L nm).size ≤ 100000) : ∀ i, i ≤ e.length → (keyL L (e.take i)).length ≤ 100010 * i
 | 0, _ => by simp [keyL]
 | i + 1, hi => by
   have ih := keyL_len L e hL i (by omega)
   have h1 := hL e[i]
   have := txtB_len1 (getL L e[i]) (by omega)
   rw [keyL_succ L e i (by omega), List.length_append]
   omega
section
variable (σ : St)
theorem project_ans (L : List Lab) (e : List ByteArray) (hl : L.length ≤ 1000) (hL : ∀ nm, (getL L nm).size ≤ 100000) (he : e.length ≤ 1000) :
  Ans Tryz.prog 38 [.sl 2 (lvs L), .sl 1 (txs e)] σ (Sx ⟨(keyL L e).toArray⟩) σ := by
 have hkl := keyL_len L e hL
 refine Ans.of_run' t38 (fun hbel _ => ?_)
 simp -implicitDefEqProofs only [c38, r38, go_sem, txs_len]
 refine Go.Ab.L.count e.length (fun i => mkE 23 [(0, .sl 2 (lvs L)), (5, .osl σ.length (keyL L (e.take i)).length), (8, .sl 1 (txs e)), (9, I e.length), (10, I i)]) (fun i => σ ++ [.row 1 (byv (keyL L (e.take i)))]) ?_ ?_ rfl rfl
 · intro i hi J hJ
   have hx := txs_get e i hi
   have hb := hkl (i + 1) (by omega)
   rw [keyL_succ L e i hi] at hJ hb
   have hg := fun σ => get_ans σ L e[i] hl
   have hs := hL e[i]
   generalize getL L e[i] = w at hJ hb hg hs
   generalize keyL L (e.take i) = pre at hJ hb ⊢
   simp only [List.length_append] at hb
   have hin := wrap_succ (i := i) (by omega)
   have l1 : pre.length + (txtB w).length ≤ 4294967296 := by omega
   simp -implicitDefEqProofs only [mkE, go_sem, txs_len, nat_lt hi, dec_lt hi, hx]
   refine CO.intro (hg _) ?_
   simp -implicitDefEqProofs only [go_sem]
   refine CO.intro (puttext_ans _ w (by omega)) ?_
   simp -implicitDefEqProofs only [go_sem, g0, s0, byv_len, byv_all', bc, l1, hin]
   simp only [byv_append, List.length_append] at hJ
   exact hJ
 · intro J
   have hd : decide ((e.length : Int) < e.length) = false := by simp
   rw [List.take_length]
   simp -implicitDefEqProofs only [mkE, go_sem, hd, g0, s0, byv_len, byv_all', bc, byteL_byv, textOf_byv, AV.isStr]
   exact Fini.trim2 (σ' := σ) rfl rfl (Nat.le_refl _) (.pl _) hbel
theorem key_ans (r : RuM) (k : Int) (L : List Lab) (v : Nat) (hl : L.length ≤ 1000) (hL : ∀ nm, (getL L nm).size ≤ 100000) (he : r.eq.length ≤ 1000) :
  Ans Tryz.prog 16 [ruV r, alV k L v] σ (Sx ⟨(keyL L r.eq).toArray⟩) σ := by
 refine Ans.of_run t16 ?_
 unfold ruV alV
 simp -implicitDefEqProofs only [c16, r16, go_sem]
 refine CO.intro (project_ans σ L r.eq hl hL he) ?_
 simp -implicitDefEqProofs only [go_sem]
 exact Fini.ret rfl
def keyEq (e : List ByteArray) (L M : List Lab) : Bool := (ByteArray.mk (keyL L e).toArray).toList == (ByteArray.mk (keyL M e).toArray).toList
def ruMutes (r : RuM) (Lb : List Lab) (vb : Nat) (La : List Lab) (va : Nat) : Bool := ruTgt r La && (ruSrc r Lb vb && (!ruSrc r La va && keyEq r.eq Lb La))
theorem mutes_ans (r : RuM) (kb : Int) (Lb : List Lab) (vb : Nat) (ka : Int) (La : List Lab) (va : Nat) (hlb : Lb.length ≤ 1000) (hLb : ∀ nm, (getL Lb nm).size ≤ 100000) (hla : La.length ≤ 1000) (hLa : ∀ nm, (getL La nm).size ≤ 100000) :
  Ans Tryz.prog 19 [ruV r, alV kb Lb vb, alV ka La va] σ (Bo (ruMutes r Lb vb La va)) σ := by
 have h1 := fun σ => rutgt_ans σ r ka La va hla hLa
 have h2 := fun σ => rusrc_ans σ r kb Lb vb hlb hLb
 have h3 := fun σ => rusrc_ans σ r ka La va hla hLa
 refine Ans.of_run t19 ?_
 unfold ruMutes
 by_cases he : r.eq.length ≤ 1000
 · have h4 := fun σ => key_ans σ r kb Lb vb hlb hLb he
   have h5 := fun σ => key_ans σ r ka La va hla hLa he
   unfold keyEq
   unfold ruV alV at h1 h2 h3 h4 h5 ⊢
   generalize ruTgt r La = b1 at h1
   generalize ruSrc r Lb vb = b2 at h2
   generalize ruSrc r La va = b3 at h3
   simp -implicitDefEqProofs only [c19, r19, go_sem, D_callS]
   first | refine CD.intro (h1 _) ?_ | refine CS.intro h1 ?_
   cases b1 with
   | false =>
     simp -implicitDefEqProofs only [go_sem]
     exact Fini.ret rfl
   | true =>
     simp -implicitDefEqProofs only [go_sem, D_callS]
     first | refine CD.intro (h2 _) ?_ | refine CS.intro h2 ?_
     cases b2 with
     | false =>
       simp -implicitDefEqProofs only [go_sem]
       exact Fini.ret rfl
     | true =>
       simp -implicitDefEqProofs only [go_sem, D_callS]
       first | refine CD.intro (h3 _) ?_ | refine CS.intro h3 ?_
       cases b3 with
       | true =>
         simp -implicitDefEqProofs only [go_sem]
         exact Fini.ret rfl
       | false =>
         simp -implicitDefEqProofs only [go_sem, D_callS]
         first | refine CD.intro (h4 _) ?_ | refine CS.intro h4 ?_
         simp -implicitDefEqProofs only [go_sem, D_callS]
         first | refine CD.intro (h5 _) ?_ | refine CS.intro h5 ?_
         simp -implicitDefEqProofs only [go_sem]
         exact Fini.ret rfl
 · have hno : ruTgt r La = false := by
    unfold ruTgt ruWorks ruIs eqB
    rw [show decide (r.eq.length ≤ 4) = false from decide_eq_false (by omega)]
    simp
   rw [hno] at h1 ⊢
   unfold ruV alV at h1 ⊢
   simp -implicitDefEqProofs only [c19, r19, go_sem, D_callS]
   first | refine CD.intro (h1 _) ?_ | refine CS.intro h1 ?_
   simp -implicitDefEqProofs only [go_sem]
   exact Fini.ret rfl
end
end Go.Proofs.YtoadgajhkhejiaaGreat
namespace Go.Proofs.YtoadgajhkhejiaaGreat
open Go Go.Ab
set_option maxRecDepth 100000
def vals8 : List ByteArray := values ++ [⟨#[]⟩]
abbrev Mz := Int × ByteArray × ByteArray
abbrev mv (x : Mz) : AV := mat x.1 x.2.1 x.2.2
def mvs (M : List Mz) : List AV := M.map mv
abbrev noM' : Mz := (0, ⟨#[]⟩, ⟨#[]⟩)
theorem mvs_len (M : List Mz) : (mvs M).length = M.length := List.length_map ..
theorem mvs_get (M : List Mz) (i : Nat) (h : i < M.length) : (mvs M)[i]? = some (mv M[i]) := by simp [mvs, h]
theorem mvs_take (L : List Mz) (k : Nat) : (mvs L).take k = mvs (L.take k) := by simp [mvs]
theorem mvs_drop (L : List Mz) (k : Nat) : (mvs L).drop k = mvs (L.drop k) := by simp [mvs]
theorem mvs_all (L : List Mz) (f : AV → Bool) (h : ∀ x : Mz, f (mv x) = true) : (mvs L).all f = true := by
 simp only [mvs, List.all_map, List.all_eq_true]
 exact fun x _ => h x
theorem mvs_nil : mvs [] = [] := rfl
theorem mvs_empty (L : List Mz) : (mvs L).isEmpty = L.isEmpty := by simp [mvs]
theorem mvs_mid (A B : List Mz) (x : Mz) : mvs (A ++ [x] ++ B) = mvs A ++ mv x :: mvs B := by simp [mvs]
theorem bel_mvs (n : Nat) (L : List Mz) : Bel n (.sl 3 (mvs L)) := by
 refine .sl 3 _ fun i hi => ?_
 have : ∀ y ∈ mvs L, Bel n y := by
  intro y hy
  simp only [mvs, List.mem_map] at hy
  obtain ⟨x, _, rfl⟩ := hy
  exact bel_mat n _ _ _
 exact this _ (List.getElem_mem hi)
theorem B_mvs (n : Nat) (L : List Mz) : Bel n (.sl 3 (mvs L)) = True := eq_true (bel_mvs n L)
theorem B_mat (n : Nat) (k : Int) (a b : ByteArray) : Bel n (mat k a b) = True := eq_true (bel_mat n k a b)
theorem B_m1 (n : Nat) (k : Int) (a b : ByteArray) : Bel n (.sl 3 [mat k a b]) = True := eq_true (bel_mvs n [(k, a, b)])
theorem B_mcons (n : Nat) (L : List Mz) (k : Int) (a b : ByteArray) : Bel n (.sl 3 (mat k a b :: mvs L)) = True := eq_true (bel_mvs n ((k, a, b) :: L))
theorem B_mmid (n : Nat) (A B : List Mz) (k : Int) (a b : ByteArray) : Bel n (.sl 3 (mvs A ++ mat k a b :: mvs B)) = True := eq_true (by have := bel_mvs n (A ++ [(k, a, b)] ++ B); rwa [mvs_mid] at this)
theorem B_rp3 (n : Nat) (k : Int) (a b : ByteArray) : Bel n (.rp [I k, Sx a, Sx b]) = True := eq_true (.rp _ fun i hi => by
 have : ∀ y ∈ [I k, Sx a, Sx b], Bel n y := by
  intro y hy
  simp only [List.mem_cons, List.not_mem_nil, or_false] at hy
  rcases hy with rfl | rfl | rfl <;> exact .pl _
 exact this _ (List.getElem_mem hi))
abbrev dv (d : Int × Int × Int) : AV := .agg [I d.1, I d.2.1, I d.2.2]
theorem B_ds (n : Nat) (ds : List (Int × Int × Int)) : Bel n (.sl 3 (ds.map dv)) = True := eq_true (.sl 3 _ fun i hi => by
 have : ∀ y ∈ ds.map dv, Bel n y := by
  intro y hy
  simp only [List.mem_map] at hy
  obtain ⟨x, _, rfl⟩ := hy
  refine .agg _ fun i hi => ?_
  have : ∀ y ∈ [I x.1, I x.2.1, I x.2.2], Bel n y := by
   intro y hy
   simp only [List.mem_cons, List.not_mem_nil, or_false] at hy
   rcases hy with rfl | rfl | rfl <;> exact .pl _
  exact this _ (List.getElem_mem hi)
 exact this _ (List.getElem_mem hi))
theorem B_d3 (n : Nat) (a b c : Int) : Bel n (.agg [I a, I b, I c]) = True := eq_true (.agg _ fun i hi => by
 have : ∀ y ∈ [I a, I b, I c], Bel n y := by
  intro y hy
  simp only [List.mem_cons, List.not_mem_nil, or_false] at hy
  rcases hy with rfl | rfl | rfl <;> exact .pl _
 exact this _ (List.getElem_mem hi))
theorem B_rpd (n : Nat) (a b c : Int) : Bel n (.rp [I a, I b, I c]) = True := eq_true (.rp _ fun i hi => by
 have : ∀ y ∈ [I a, I b, I c], Bel n y := by
  intro y hy
  simp only [List.mem_cons, List.not_mem_nil, or_false] at hy
  rcases hy with rfl | rfl | rfl <;> exact .pl _
 exact this _ (List.getElem_mem hi))
def aheadP (x y : Mz) : Bool :=
 if !(x.2.1.toList == y.2.1.toList) then Op.bytesLess x.2.1.toList y.2.1.toList
 else if x.1 != y.1 then decide (x.1 < y.1) else Op.bytesLess x.2.2.toList y.2.2.toList
def eqM (x y : Mz) : Bool := x.1 == y.1 && (x.2.1.toList == y.2.1.toList && x.2.2.toList == y.2.2.toList)
def posM (out : List Mz) (x : Mz) : Nat → Nat
 | 0 => 0
 | n + 1 => if aheadP x (out.getD n noM') then posM out x n else n + 1
def insM (out : List Mz) (x : Mz) : List Mz :=
 let p := posM out x out.length
 if decide (0 < p) && eqM (out.getD (p - 1) noM') x then out else out.take p ++ [x] ++ out.drop p
def matOf (d : Int × Int × Int) : Mz := (inD d.1 1 4, nameOf d.2.1, matVal d.1 d.2.2)
def matsGo : List (Int × Int × Int) → List Mz → List Mz
 | [], out => out
 | d :: ds, out => if out.length < 5 then matsGo ds (insM out (matOf d)) else out
section
variable (σ : St)
theorem ahead_ans (x y : Mz) : Ans Tryz.prog 64 [mv x, mv y] σ (Bo (aheadP x y)) σ := by
 unfold aheadP
 refine Ans.of_run t64 ?_
 simp -implicitDefEqProofs only [c64, r64, go_sem]
 cases h1 : x.2.1.toList == y.2.1.toList
 · simp -implicitDefEqProofs only [go_sem]
   exact Fini.ret rfl
 · simp -implicitDefEqProofs only [go_sem]
   cases h2 : x.1 != y.1
   · simp -implicitDefEqProofs only [go_sem]
     exact Fini.ret rfl
   · simp -implicitDefEqProofs only [go_sem]
     exact Fini.ret rfl
def mustL (b : Bool) (L : List Mz) : List Mz := if b && L.isEmpty then [(1, ⟨#[115, 101, 118]⟩, ⟨#[97]⟩)] else L
def slotM (L : List Mz) : AV := if L.isEmpty then .nils else .sl 3 (mvs L)
theorem slotM_nil : slotM [] = .nils := rfl
theorem slotM_of {L : List Mz} (h : L ≠ []) : slotM L = .sl 3 (mvs L) := by
 unfold slotM
 cases L with
 | nil => exact absurd rfl h
 | cons _ _ => rfl
theorem insM_ne (out : List Mz) (x : Mz) : insM out x ≠ [] := by
 unfold insM
 simp only
 split
 · rename_i h
   intro e
   subst e
   simp [posM] at h
 · simp
theorem matsGo_ne : ∀ (ds : List (Int × Int × Int)) (out : List Mz), out ≠ [] → matsGo ds out ≠ []
 | [], out, h => h
 | d :: ds, out, h => by
   rw [matsGo]
   split
   · exact matsGo_ne ds _ (insM_ne _ _)
   · exact h
theorem mats_ne (must : Bool) (ds : List (Int × Int × Int)) (hne : ds ≠ []) (hl : ds.length ≤ 9223372036854775807) : Ans Tryz.prog 41 [.sl 3 (ds.map dv), Bo must] σ (.sl 3 (mvs (matsGo ds []))) σ := by
 have hresne : matsGo ds [] ≠ [] := by
  cases ds with
  | nil => exact absurd rfl hne
  | cons d ds =>
    rw [matsGo, if_pos (by decide)]
    exact matsGo_ne ds _ (insM_ne _ _)
 refine Ans.of_run' t41 (fun hbel _ => ?_)
 have hbel' : (∀ o ∈ σ, BelO σ.length o) = True := eq_true hbel
 simp -implicitDefEqProofs only [c41, r41, go_sem, B_pl, B_any, B_nils, B_tup, B_osl, B_ptr, B_sl0, B_mvs, B_mat, B_m1, B_mcons, B_mmid, B_rp3, B_ds, B_d3, B_rpd, List.take_left, hbel', g0, s0, List.length_append, Nat.le_add_right]
 generalize hres : matsGo ds [] = res at hresne ⊢
 have hdl : (((ds.map dv).length : Nat) : Int) = (ds.length : Nat) := by simp
 refine Go.Ab.L.intro (α := { x : Nat × List Mz // x.1 ≤ ds.length ∧ x.2.length ≤ 5 ∧ matsGo (ds.drop x.1) x.2 = res }) (fun x => ds.length - x.1.1)
  (fun x => mkE 73 [(0, .sl 3 (ds.map dv)), (1, Bo must), (5, slotM x.1.2), (6, I x.1.1)]) (fun _ => σ)
  (fun x J hJ => ?_) ⟨(0, []), Nat.zero_le _, Nat.zero_le _, hres⟩ rfl rfl
 obtain ⟨⟨i, out⟩, hi, ho, hg⟩ := x
 simp only at hi ho hg hJ ⊢
 by_cases hout : out = []
 · subst hout
   by_cases hlt : i < ds.length
   · have hget : (ds.map dv)[i]? = some (dv ds[i]) := by simp [hlt]
     rw [List.drop_eq_getElem_cons hlt, matsGo, if_pos (by decide)] at hg
     have hws : IntKind.i64.wrap ((i : Int) + 1) = ((i + 1 : Nat) : Int) := by rw [wrapN (by omega) (by omega)]; rfl
     have hin : insM [] (matOf ds[i]) = [matOf ds[i]] := rfl
     rw [hin] at hg
     have hJ' := hJ ⟨(i + 1, [matOf ds[i]]), hlt, by simp, hg⟩ (by simp only; omega)
     simp only at hJ'
     rw [slotM_of (by simp)] at hJ'
     clear hJ hg
     rw [slotM_nil]
     simp -implicitDefEqProofs only [mkE, go_sem, hdl, nat_lt hlt, dec_lt hlt, hget]
     refine CO.intro (matcher_ans σ _ _ _) ?_
     have hxx : matOf ds[i] = (inD ds[i].1 1 4, nameOf ds[i].2.1, matVal ds[i].1 ds[i].2.2) := rfl
     rw [hxx] at hJ'
     generalize inD ds[i].1 1 4 = xk at hJ' ⊢
     generalize nameOf ds[i].2.1 = xn at hJ' ⊢
     generalize matVal ds[i].1 ds[i].2.2 = xv at hJ' ⊢
     simp -implicitDefEqProofs only [go_sem, mvs_len]
     refine Go.Ab.L.intro (α := Unit) (fun x => 0)
      (fun x => mkE 73 [(0, .sl 3 (ds.map dv)), (1, Bo must), (5, .sl 3 []), (6, I i), (7, .rp [I xk, Sx xn, Sx xv]), (8, I 0)]) (fun _ => σ)
      (fun x J2 hJ2 => ?_) () rfl rfl
     have h1 : (1 ≤ 2 ^ 32) = True := by simp
     have h1' : (1 ≤ 4294967296) = True := by simp
     have hmv : mvs [(xk, xn, xv)] = [.agg [I xk, Sx xn, Sx xv]] := rfl
     rw [hmv] at hJ'
     simp -implicitDefEqProofs only [mkE, go_sem, Int.natCast_zero, Int.le_refl, Int.toNat_zero, List.take_length, List.drop_zero, List.drop_nil, mvs_nil, mvs_take, mvs_drop, mvs_all, mvs_empty, mvs_len, g0, s0, B_pl, B_any, B_nils, B_tup, B_osl, B_ptr, B_sl0, B_mvs, B_mat, B_m1, B_mcons, B_mmid, B_rp3, B_ds, B_d3, B_rpd, h1, h1', List.take_left, hbel', List.length_append, List.append_assoc, Nat.le_add_right, hws, hws]
     exact hJ'
   · have : i = ds.length := by omega
     subst this
     rw [List.drop_length, matsGo] at hg
     exact absurd hg.symm hresne
 rw [slotM_of hout]
 have hJ2 : ∀ (a' : { x : Nat × List Mz // x.1 ≤ ds.length ∧ x.2.length ≤ 5 ∧ matsGo (ds.drop x.1) x.2 = res }), a'.1.2 ≠ [] → ds.length - a'.1.1 < ds.length - i → J (mkE 73 [(0, .sl 3 (ds.map dv)), (1, Bo must), (5, .sl 3 (mvs a'.1.2)), (6, I a'.1.1)]) σ := fun a' h1 h2 => by
  have := hJ a' h2
  rw [slotM_of h1] at this
  exact this
 clear hJ
 by_cases hlt : i < ds.length
 · have hget : (ds.map dv)[i]? = some (dv ds[i]) := by simp [hlt]
   have d5 : decide (((out.length : Nat) : Int) < 5) = decide (out.length < 5) := by rw [Bool.eq_iff_iff]; simp only [decide_eq_true_eq]; omega
   rw [List.drop_eq_getElem_cons hlt, matsGo] at hg
   simp -implicitDefEqProofs only [mkE, go_sem, hdl, nat_lt hlt, dec_lt hlt, mvs_len, d5]
   by_cases h5 : out.length < 5
   · rw [if_pos h5] at hg
     have h5' : decide (out.length < 5) = true := by simpa using h5
     have hws : IntKind.i64.wrap ((i : Int) + 1) = ((i + 1 : Nat) : Int) := by rw [wrapN (by omega) (by omega)]; rfl
     have hJ' := hJ2 ⟨(i + 1, insM out (matOf ds[i])), hlt, by
      unfold insM; simp only; split
      · exact ho
      · simp; omega, hg⟩ (insM_ne _ _) (by simp only; omega)
     simp only at hJ'
     clear hJ2 hg
     simp -implicitDefEqProofs only [go_sem, h5', hget, hdl, nat_lt hlt]
     refine CO.intro (matcher_ans σ _ _ _) ?_
     simp -implicitDefEqProofs only [go_sem, mvs_len]
     have hx : mat (inD ds[i].1 1 4) (nameOf ds[i].2.1) (matVal ds[i].1 ds[i].2.2) = mv (matOf ds[i]) := rfl
     unfold insM at hJ'
     simp only at hJ'
     generalize hp : posM out (matOf ds[i]) out.length = p at hJ'
     have hxx : matOf ds[i] = (inD ds[i].1 1 4, nameOf ds[i].2.1, matVal ds[i].1 ds[i].2.2) := rfl
     rw [hxx] at hp hJ'
     generalize inD ds[i].1 1 4 = xk at hp hJ' ⊢
     generalize nameOf ds[i].2.1 = xn at hp hJ' ⊢
     generalize matVal ds[i].1 ds[i].2.2 = xv at hp hJ' ⊢
     refine Go.Ab.L.intro (α := { n : Nat // n ≤ out.length ∧ posM out (xk, xn, xv) n = p }) (fun x => x.1)
      (fun x => mkE 73 [(0, .sl 3 (ds.map dv)), (1, Bo must), (5, .sl 3 (mvs out)), (6, I i), (7, .rp [I xk, Sx xn, Sx xv]), (8, I x.1)]) (fun _ => σ)
      (fun x J2 hJ2 => ?_) ⟨out.length, Nat.le_refl _, hp⟩ rfl rfl
     obtain ⟨n, hn, hpn⟩ := x
     simp only at hJ2 ⊢
     cases n with
     | zero =>
       rw [posM] at hpn
       subst hpn
       have h1 : (1 ≤ 2 ^ 32) = True := by simp
       have d00 : decide ((0 : Int) < ((0 : Nat) : Int)) = false := by decide
       have hp32 : (1 + out.length ≤ 2 ^ 32) = True := by simp; omega
       have q1 : (1 + out.length = out.length + 1) = True := by simp; omega
       rw [show decide (0 < 0) = false from rfl, Bool.false_and, if_neg Bool.false_ne_true, mvs_mid] at hJ'
       simp -implicitDefEqProofs only [mkE, go_sem, q1, d00, Int.natCast_zero, Int.le_refl, Int.toNat_zero, List.take_length, List.drop_zero, List.drop_nil, mvs_nil, mvs_take, mvs_drop, mvs_all, mvs_empty, mvs_len, g0, s0, B_pl, B_any, B_nils, B_tup, B_osl, B_ptr, B_sl0, B_mvs, B_mat, B_m1, B_mcons, B_mmid, B_rp3, B_ds, B_d3, B_rpd, hp32, h1, List.take_left, hbel', List.length_append, List.append_assoc, Nat.le_add_right, hws]
       exact hJ'
     | succ n =>
       have hy := mvs_get out n hn
       have hgd : out.getD n noM' = out[n] := by rw [List.getD_eq_getElem?_getD, List.getElem?_eq_getElem hn]; rfl
       have d0 : decide ((0 : Int) < ((n + 1 : Nat) : Int)) = true := by simp
       have e1 : IntKind.i64.wrap (((n + 1 : Nat) : Int) - 1) = (n : Int) := by rw [wrapN (by omega) (by omega)]; omega
       rw [posM, hgd] at hpn
       have ha := fun s => ahead_ans s (xk, xn, xv) out[n]
       have heq : ∀ y : Mz, eqM y (xk, xn, xv) = (y.1 == xk && (y.2.1.toList == xn.toList && y.2.2.toList == xv.toList)) := fun _ => rfl
       simp -implicitDefEqProofs only [mkE, go_sem, D_callS, d0, e1, mvs_len, nat_lt hn, hy]
       first | refine CO.intro (ha _) ?_ | refine CD.intro (ha _) ?_ | refine CS.intro ha ?_
       cases hb : aheadP (xk, xn, xv) out[n]
       · rw [hb, if_neg Bool.false_ne_true] at hpn
         subst hpn
         rw [show decide (0 < n + 1) = true by simp, Bool.true_and, show n + 1 - 1 = n from rfl, hgd, heq] at hJ'
         have p1 : (((n + 1 : Nat) : Int) ≤ (out.length : Nat)) = True := by simp; omega
         have p2 : (out.take (n + 1)).isEmpty = false := by
          cases h : out.take (n + 1) with
          | nil =>
            have : (out.take (n + 1)).length = 0 := by rw [h]; rfl
            rw [List.length_take] at this; omega
          | cons _ _ => rfl
         have p3 : (out.take (n + 1)).length = n + 1 := by simp; omega
         have p4 : (out.drop (n + 1)).length = out.length - (n + 1) := by simp
         have p5 : (n + 1 ≤ 2 ^ 32) = True := by simp; omega
         have p6 : (n + 1 + 1 ≤ 2 ^ 32) = True := by simp; omega
         have p7 : (n + 1 + 1 + (out.length - (n + 1)) ≤ 2 ^ 32) = True := by simp; omega
         have q2 : (n + 1 + 1 + (out.length - (n + 1)) = n + 1 + (out.length - (n + 1) + 1)) = True := by simp; omega
         simp -implicitDefEqProofs only [go_sem, D_callS, d0, e1, mvs_len, nat_lt hn, hy]
         cases he : (out[n].1 == xk && (out[n].2.1.toList == xn.toList && out[n].2.2.toList == xv.toList))
         · rw [he, if_neg Bool.false_ne_true, mvs_mid] at hJ'
           simp -implicitDefEqProofs only [go_sem, he, q2, Int.natCast_zero, Int.le_refl, Int.toNat_zero, List.take_length, List.drop_zero, List.drop_nil, mvs_nil, mvs_take, mvs_drop, mvs_all, mvs_empty, mvs_len, g0, s0, B_pl, B_any, B_nils, B_tup, B_osl, B_ptr, B_sl0, B_mvs, B_mat, B_m1, B_mcons, B_mmid, B_rp3, B_ds, B_d3, B_rpd, List.take_left, hbel', List.length_append, List.append_assoc, Nat.le_add_right, hws, p1, p2, p3, p4, p5, p6, p7]
           exact hJ'
         · rw [he, if_pos rfl] at hJ'
           simp -implicitDefEqProofs only [go_sem, he, hws]
           exact hJ'
       · rw [hb, if_pos rfl] at hpn
         have hJ2' := hJ2 ⟨n, by omega, hpn⟩ (Nat.lt_succ_self n)
         simp only at hJ2'
         simp -implicitDefEqProofs only [mkE, go_sem, D_callS, d0, e1, mvs_len, nat_lt hn, hy]
         exact hJ2'
   · rw [if_neg h5] at hg
     have h5' : decide (out.length < 5) = false := by simpa using h5
     have h0 : ((out.length : Int) == 0) = false := by simp; omega
     subst hg
     cases must with
     | true =>
       simp -implicitDefEqProofs only [go_sem, h5', mvs_len, h0]
       exact Fini.ret rfl
     | false =>
       simp -implicitDefEqProofs only [go_sem, h5', mvs_len]
       exact Fini.ret rfl
 · have : i = ds.length := by omega
   subst this
   rw [List.drop_length, matsGo] at hg
   have h0 : ((out.length : Int) == 0) = false := by
    cases out with
    | nil => exact absurd rfl hout
    | cons a b => simp; omega
   subst hg
   cases must with
   | true =>
     simp -implicitDefEqProofs only [mkE, go_sem, hdl, nat_nlt hlt, dec_nlt hlt, mvs_len, h0]
     exact Fini.ret rfl
   | false =>
     simp -implicitDefEqProofs only [mkE, go_sem, hdl, nat_nlt hlt, dec_nlt hlt, mvs_len]
     exact Fini.ret rfl
theorem mats_ans' (must : Bool) (ds : List (Int × Int × Int)) (hl : ds.length ≤ 9223372036854775807) : Ans Tryz.prog 41 [.sl 3 (ds.map dv), Bo must] σ (.sl 3 (mvs (mustL must (matsGo ds [])))) σ := by
 cases ds with
 | cons d ds =>
   have hne : matsGo (d :: ds) [] ≠ [] := by
    rw [matsGo, if_pos (by decide)]
    exact matsGo_ne ds _ (insM_ne _ _)
   have e : mustL must (matsGo (d :: ds) []) = matsGo (d :: ds) [] := by
    unfold mustL
    cases h : matsGo (d :: ds) [] with
    | nil => exact absurd h hne
    | cons _ _ => simp
   rw [e]
   exact mats_ne σ must (d :: ds) (by simp) hl
 | nil =>
   have d0 : decide ((0 : Int) < ((0 : Nat) : Int)) = false := by decide
   cases must with
   | false =>
     have : Ans Tryz.prog 41 [.sl 3 (([] : List (Int × Int × Int)).map dv), Bo false] σ .nils σ := by
      refine Ans.of_run t41 ?_
      simp -implicitDefEqProofs only [c41, r41, go_sem]
      refine Go.Ab.L.intro (α := Unit) (fun x => 0) (fun x => mkE 73 [(0, .sl 3 []), (1, Bo false), (5, .nils), (6, I 0)]) (fun _ => σ) (fun x J2 hJ2 => ?_) () rfl rfl
      simp -implicitDefEqProofs only [mkE, go_sem, d0]
      exact Fini.ret rfl
     exact this.subR (.nils 3)
   | true =>
     refine Ans.of_run' t41 (fun hbel _ => ?_)
     have h1 : (1 ≤ 2 ^ 32) = True := by simp
     simp -implicitDefEqProofs only [c41, r41, go_sem]
     refine Go.Ab.L.intro (α := Unit) (fun x => 0) (fun x => mkE 73 [(0, .sl 3 []), (1, Bo true), (5, .nils), (6, I 0)]) (fun _ => σ) (fun x J2 hJ2 => ?_) () rfl rfl
     have b0 : (((0 : Nat) : Int) == 0) = true := by decide
     simp -implicitDefEqProofs only [mkE, go_sem, d0, b0, h1, g0, s0]
     exact Fini.trim2 (σ' := σ) rfl rfl (Nat.le_refl _) (bel_mvs _ [(1, ⟨#[115, 101, 118]⟩, ⟨#[97]⟩)]) hbel
end
end Go.Proofs.YtoadgajhkhejiaaGreat
namespace Go.Proofs.YtoadgajhkhejiaaGreat
open Go Go.Ab
set_option maxRecDepth 100000
def allV : List ByteArray := vals8 ++ pats
instance : DecidableEq ByteArray := fun a b => decidable_of_iff (a.data = b.data) (by cases a; cases b; simp)
theorem names_tri : ∀ a ∈ names, ∀ b ∈ names, (a.toList == b.toList || (Op.bytesLess a.toList b.toList || Op.bytesLess b.toList a.toList)) = true := by decide +kernel
theorem allV_tri : ∀ a ∈ allV, ∀ b ∈ allV, (a.toList == b.toList || (Op.bytesLess a.toList b.toList || Op.bytesLess b.toList a.toList)) = true := by decide +kernel
structure MOK (x : Mz) : Prop where
 lo : 1 ≤ x.1
 hi : x.1 ≤ 4
 nm : x.2.1 ∈ names
 low : x.1 < 3 → x.2.2 ∈ vals8
 high : ¬ x.1 < 3 → x.2.2 ∈ pats
theorem MOK.val {x : Mz} (h : MOK x) : x.2.2 ∈ allV := by
 unfold allV
 by_cases h3 : x.1 < 3
 · exact List.mem_append_left _ (h.low h3)
 · exact List.mem_append_right _ (h.high h3)
theorem matVal_low (k v : Int) (h : inD k 1 4 < 3) : matVal k v ∈ vals8 := by
 unfold matVal
 rw [if_pos h]
 split
 · simp [vals8]
 · have := valueOf_mem v; simp [vals8, this]
theorem matVal_high (k v : Int) (h : ¬ inD k 1 4 < 3) : matVal k v ∈ pats := by
 unfold matVal
 rw [if_neg h]
 exact patOf_mem v
theorem matOf_ok (d : Int × Int × Int) : MOK (matOf d) :=
 ⟨(inD_in d.1 1 4 (by omega)).1, (inD_in d.1 1 4 (by omega)).2, nameOf_mem _, matVal_low _ _, matVal_high _ _⟩
theorem beq_comm' (a b : List UInt8) : (a == b) = (b == a) := by rw [Bool.eq_iff_iff, beq_iff_eq, beq_iff_eq]; exact eq_comm
theorem tri {x y : Mz} (hx : MOK x) (hy : MOK y) (h : aheadP x y = false) (he : eqM y x = false) : aheadP y x = true := by
 have h1 := names_tri _ hx.nm _ hy.nm
 have h2 := allV_tri _ hx.val _ hy.val
 unfold aheadP at h ⊢
 unfold eqM at he
 rw [beq_comm' y.2.1.toList] at he ⊢
 rw [beq_comm' y.2.2.toList] at he
 cases e1 : x.2.1.toList == y.2.1.toList
 · rw [e1] at h h1
   simp only [Bool.not_false, if_true, Bool.false_or] at h h1 ⊢
   rw [h] at h1
   simpa using h1
 · rw [e1] at h he
   simp only [Bool.not_true, Bool.false_eq_true, if_false, Bool.true_and] at h he ⊢
   by_cases e2 : x.1 = y.1
   · have n1 : (x.1 != y.1) = false := by simp [e2]
     have n2 : (y.1 != x.1) = false := by simp [e2]
     have n3 : (y.1 == x.1) = true := by simp [e2]
     rw [n1] at h
     rw [n3] at he
     rw [n2]
     simp only [Bool.false_eq_true, if_false, Bool.true_and] at h he ⊢
     rw [he, h] at h2
     simpa using h2
   · have n1 : (x.1 != y.1) = true := by simp [e2]
     have n2 : (y.1 != x.1) = true := by simp [Ne.symm e2]
     rw [n1] at h
     rw [n2]
     simp only [if_true, decide_eq_false_iff_not, decide_eq_true_eq] at h ⊢
     omega
def Adj (M : List Mz) : Prop := ∀ i a b, M[i]? = some a → M[i + 1]? = some b → aheadP a b = true
theorem posM_spec (out : List Mz) (x : Mz) : ∀ n, posM out x n ≤ n ∧ (0 < posM out x n → aheadP x (out.getD (posM out x n - 1) noM') = false) ∧ (posM out x n < n → aheadP x (out.getD (posM out x n) noM') = true)
 | 0 => ⟨Nat.le_refl _, fun h => absurd h (Nat.lt_irrefl _), fun h => absurd h (Nat.lt_irrefl _)⟩
 | n + 1 => by
   rw [posM]
   cases h : aheadP x (out.getD n noM')
   · simp only [Bool.false_eq_true, if_false]
     exact ⟨Nat.le_refl _, fun _ => h, fun h => absurd h (Nat.lt_irrefl _)⟩
   · simp only [if_true]
     obtain ⟨h1, h2, h3⟩ := posM_spec out x n
     refine ⟨Nat.le_succ_of_le h1, h2, fun hlt => ?_⟩
     rcases Nat.lt_or_ge (posM out x n) n with h4 | h4
     · exact h3 h4
     · have : posM out x n = n := by omega
       rw [this]; exact h
theorem ins_get (out : List Mz) (x : Mz) (p : Nat) (hp : p ≤ out.length) (j : Nat) : (out.take p ++ [x] ++ out.drop p)[j]? = if j < p then out[j]? else if j = p then some x else out[j - 1]? := by
 have hl : (out.take p).length = p := by simp; omega
 rw [List.append_assoc]
 split
 · rename_i h
   rw [List.getElem?_append_left (by omega), List.getElem?_take, if_pos h]
 · rename_i h
   rw [List.getElem?_append_right (by omega), hl]
   split
   · rename_i h2
     subst h2
     simp
   · rename_i h2
     rw [List.singleton_append, show j - p = (j - 1 - p) + 1 by omega, List.getElem?_cons_succ, List.getElem?_drop]
     congr 1
     omega
theorem getD_of {out : List Mz} {i : Nat} {a : Mz} (h : out[i]? = some a) : out.getD i noM' = a := by
 rw [List.getD_eq_getElem?_getD, h]; rfl
theorem insM_adj {out : List Mz} {x : Mz} (hx : MOK x) (ho : ∀ y ∈ out, MOK y) (ha : Adj out) : Adj (insM out x) := by
 obtain ⟨h1, h2, h3⟩ := posM_spec out x out.length
 unfold insM
 simp only
 generalize posM out x out.length = p at h1 h2 h3
 split
 · exact ha
 · rename_i hc
   intro i a b hia hib
   rw [ins_get out x p h1] at hia hib
   by_cases c1 : i + 1 < p
   · rw [if_pos (by omega)] at hia
     rw [if_pos c1] at hib
     exact ha i a b hia hib
   · by_cases c2 : i + 1 = p
     · rw [if_pos (by omega)] at hia
       rw [if_neg c1, if_pos c2] at hib
       simp only [Option.some.injEq] at hib
       subst hib
       have hp0 : 0 < p := by omega
       have hg := getD_of hia
       have h4 := h2 hp0
       rw [show p - 1 = i by omega, hg] at h4
       have he : eqM a x = false := by
        cases h : eqM a x
        · rfl
        · rw [show p - 1 = i by omega, hg, h] at hc
          simp [hp0] at hc
       exact tri hx (ho a (List.mem_of_getElem? hia)) h4 he
     · by_cases c3 : i = p
       · rw [if_neg (by omega), if_pos c3] at hia
         rw [if_neg c1, if_neg c2, show i + 1 - 1 = i by omega, c3] at hib
         simp only [Option.some.injEq] at hia
         subst hia
         have hlt : p < out.length := (List.getElem?_eq_some_iff.1 hib).1
         have h4 := h3 hlt
         rwa [getD_of hib] at h4
       · rw [if_neg (by omega), if_neg c3] at hia
         rw [if_neg c1, if_neg c2] at hib
         refine ha (i - 1) a b hia ?_
         rw [show i - 1 + 1 = i + 1 - 1 by omega]
         exact hib
theorem insM_ok {out : List Mz} {x : Mz} (hx : MOK x) (ho : ∀ y ∈ out, MOK y) : ∀ y ∈ insM out x, MOK y := by
 unfold insM
 simp only
 split
 · exact ho
 · intro y hy
   rcases List.mem_append.1 hy with hy | hy
   · rcases List.mem_append.1 hy with hy | hy
     · exact ho y (List.mem_of_mem_take hy)
     · simp only [List.mem_cons, List.not_mem_nil, or_false] at hy
       subst hy; exact hx
   · exact ho y (List.mem_of_mem_drop hy)
theorem insM_len (out : List Mz) (x : Mz) : (insM out x).length ≤ out.length + 1 := by
 unfold insM; simp only; split
 · omega
 · simp; omega
theorem matsGo_ok (ds : List (Int × Int × Int)) : ∀ out, out.length ≤ 5 → (∀ y ∈ out, MOK y) → Adj out → (matsGo ds out).length ≤ 5 ∧ (∀ y ∈ matsGo ds out, MOK y) ∧ Adj (matsGo ds out) := by
 induction ds with
 | nil => intro out h1 h2 h3; exact ⟨h1, h2, h3⟩
 | cons d ds ih =>
   intro out h1 h2 h3
   rw [matsGo]
   split
   · have := insM_len out (matOf d)
     exact ih _ (by omega) (insM_ok (matOf_ok d) h2) (insM_adj (matOf_ok d) h2 h3)
   · exact ⟨h1, h2, h3⟩
theorem mats_ok (ds : List (Int × Int × Int)) : (matsGo ds []).length ≤ 5 ∧ (∀ y ∈ matsGo ds [], MOK y) ∧ Adj (matsGo ds []) :=
 matsGo_ok ds [] (Nat.zero_le _) (fun y hy => by cases hy) (fun i a b h => by simp at h)
end Go.Proofs.YtoadgajhkhejiaaGreat
namespace Go.Proofs.YtoadgajhkhejiaaGreat
open Go Go.Ab Go.Cod
set_option maxRecDepth 100000
def drawnLabs (ns : List Int) : List Lab := if isSetL (setL (labs ns)) then setL (labs ns) else []
theorem labels_sl (σ : St) (ns : List Int) : Ans Tryz.prog 24 [.sl 1 (ns.map I)] σ (.sl 2 (lvs (drawnLabs ns))) σ := by
 refine (labels_ans σ ns).subR ?_
 unfold setV drawnLabs
 split
 · exact .refl _
 · exact .nils 2
theorem drawnLabs_ok (ns : List Int) : (drawnLabs ns).length ≤ 5 ∧ ∀ x ∈ drawnLabs ns, x.2.size ≤ 24 := by
 unfold drawnLabs
 split
 · refine ⟨by rw [setL_len]; exact labs_len ns, fun x hx => ?_⟩
   exact (values_size _ (labs_drawn ns x (setL_mem _ x hx)).2).2
 · exact ⟨by simp, fun x hx => by cases hx⟩
theorem drawnLabs_get (ns : List Int) (nm : ByteArray) : (getL (drawnLabs ns) nm).size ≤ 100000 := by
 rcases getL_mem (drawnLabs ns) nm with h | ⟨x, hx, h⟩
 · rw [h]; decide
 · rw [h]; have := (drawnLabs_ok ns).2 x hx; omega
theorem bel_alV (n : Nat) (k : Int) (L : List Lab) (v : Nat) : Bel n (alV k L v) := .agg _ fun i hi => by
 have : ∀ y ∈ ([I k, .sl 2 (lvs L), Fl v] : List AV), Bel n y := by
  intro y hy
  simp only [List.mem_cons, List.not_mem_nil, or_false] at hy
  rcases hy with rfl | rfl | rfl
  · exact .pl _
  · exact bel_lvs n L
  · exact .pl _
 exact this _ (List.getElem_mem hi)
def bandV (b : Bool × Nat × Nat) : AV := .agg [Bo b.1, Fl b.2.1, Fl b.2.2]
theorem bel_bandV (n : Nat) (b : Bool × Nat × Nat) : Bel n (bandV b) := .agg _ fun i hi => by
 have : ∀ y ∈ ([Bo b.1, Fl b.2.1, Fl b.2.2] : List AV), Bel n y := by
  intro y hy
  simp only [List.mem_cons, List.not_mem_nil, or_false] at hy
  rcases hy with rfl | rfl | rfl <;> exact .pl _
 exact this _ (List.getElem_mem hi)
def ltF (a b : Nat) : Bool := FloatKind.f64.format.order a b == some .lt
theorem ltF_def (a b : Nat) : (FloatKind.f64.format.order a b == some .lt) = ltF a b := rfl
def drawnBand (sel : Int) (lo hi : Nat) : Bool × Nat × Nat :=
 if sel.tmod 3 == 0 || (nanF lo || nanF hi) then (true, 0, 0) else if ltF hi lo then (false, hi, lo) else (false, lo, hi)
section
variable (σ : St)
theorem alert_ans (ns : List Int) (v : Nat) : Ans Tryz.prog 7 [.agg [.sl 1 (ns.map I), Fl v]] σ (alV 0 (drawnLabs ns) v) σ := by
 have hl := fun σ => labels_sl σ ns
 have hb := bel_alV σ.length 0 (drawnLabs ns) v
 generalize drawnLabs ns = L at hl hb ⊢
 unfold alV at hb ⊢
 refine Ans.of_run' t7 (fun hbel _ => ?_)
 simp -implicitDefEqProofs only [c7, r7, go_sem, D_callS]
 first | refine CD.intro (hl _) ?_ | refine CS.intro hl ?_
 simp -implicitDefEqProofs only [go_sem, g0, s0]
 exact Fini.trim2 (σ' := σ) (ex := [_]) (by simp -implicitDefEqProofs only [go_sem, resA, allSome, rvA, oneOf, g0]) rfl (Nat.le_refl _) hb hbel
theorem band_ans (sel : Int) (lo hi : Nat) : Ans Tryz.prog 42 [.agg [I sel, Fl lo, Fl hi]] σ (bandV (drawnBand sel lo hi)) σ := by
 have hbb := fun b => bel_bandV σ.length b
 unfold bandV at hbb ⊢
 refine Ans.of_run' t42 (fun hbel _ => ?_)
 unfold drawnBand
 cases h1 : (sel.tmod 3 == 0) with
 | true =>
   simp -implicitDefEqProofs only [c42, r42, go_sem, h1, List.append_assoc, List.length_append, g0, s0, g1, s1, Bool.true_or]
   exact Fini.trim2 (σ' := σ) (ex := [_, _]) (by simp -implicitDefEqProofs only [go_sem, resA, allSome, rvA, oneOf, g0]) rfl (Nat.le_refl _) (hbb (true, 0, 0)) hbel
 | false =>
   simp -implicitDefEqProofs only [c42, r42, go_sem, h1, List.append_assoc, List.length_append, g0, s0, g1, s1, nanF_def, Bool.false_or]
   cases h2 : nanF lo with
   | true =>
     simp -implicitDefEqProofs only [go_sem, g0, s0, g1, s1, Bool.true_or]
     exact Fini.trim2 (σ' := σ) (ex := [_, _]) (by simp -implicitDefEqProofs only [go_sem, resA, allSome, rvA, oneOf, g0]) rfl (Nat.le_refl _) (hbb (true, 0, 0)) hbel
   | false =>
     simp -implicitDefEqProofs only [go_sem, g0, s0, g1, s1, nanF_def, Bool.false_or]
     cases h3 : nanF hi with
     | true =>
       simp -implicitDefEqProofs only [go_sem, g0, s0, g1, s1]
       exact Fini.trim2 (σ' := σ) (ex := [_, _]) (by simp -implicitDefEqProofs only [go_sem, resA, allSome, rvA, oneOf, g0]) rfl (Nat.le_refl _) (hbb (true, 0, 0)) hbel
     | false =>
       simp -implicitDefEqProofs only [go_sem, g0, s0, g1, s1, ltF_def]
       cases h4 : ltF hi lo with
       | true =>
         simp -implicitDefEqProofs only [go_sem, g0, s0, g1, s1]
         exact Fini.trim2 (σ' := σ) (ex := [_, _]) (by simp -implicitDefEqProofs only [go_sem, resA, allSome, rvA, oneOf, g0]) rfl (Nat.le_refl _) (hbb (false, hi, lo)) hbel
       | false =>
         simp -implicitDefEqProofs only [go_sem, g0, s0, g1, s1]
         exact Fini.trim2 (σ' := σ) (ex := [_, _]) (by simp -implicitDefEqProofs only [go_sem, resA, allSome, rvA, oneOf, g0]) rfl (Nat.le_refl _) (hbb (false, lo, hi)) hbel
end
end Go.Proofs.YtoadgajhkhejiaaGreat
namespace Go.Proofs.YtoadgajhkhejiaaGreat
open Go Go.Ab Go.Cod
set_option maxRecDepth 100000
theorem txs_snoc (l : List ByteArray) (s : ByteArray) : txs (l ++ [s]) = txs l ++ [Sx s] := by simp [txs]
theorem txs_nil : txs [] = [] := rfl
theorem txs_all (l : List ByteArray) (f : AV → Bool) (h : ∀ x : ByteArray, f (Sx x) = true) : (txs l).all f = true := by
 simp only [txs, List.all_map, List.all_eq_true]
 exact fun x _ => h x
theorem bel_txs (n : Nat) (L : List ByteArray) : Bel n (.sl 1 (txs L)) := by
 refine .sl 1 _ fun i hi => ?_
 have : ∀ y ∈ txs L, Bel n y := by
  intro y hy
  simp only [txs, List.mem_map] at hy
  obtain ⟨x, _, rfl⟩ := hy
  exact .pl _
 exact this _ (List.getElem_mem hi)
def nm5 : List ByteArray := [⟨#[90, 111, 110, 101, 57]⟩, ⟨#[95, 120]⟩, ⟨#[104, 111, 115, 116]⟩, ⟨#[106, 111, 98]⟩, ⟨#[115, 101, 118]⟩]
def hasN (ns : List Int) (s : ByteArray) : Bool := ns.any fun k => (nameOf k).toList == s.toList
def eqGo (ns : List Int) : List ByteArray → List ByteArray → List ByteArray
 | [], e => e
 | s :: r, e => if e.length < 4 then eqGo ns r (if hasN (ns.take 9) s then e ++ [s] else e) else e
def drawnEq (ns : List Int) : List ByteArray := eqGo ns nm5 []
theorem g2 (σ : St) (x y z : Ob) (ex : St) : (σ ++ x :: y :: z :: ex)[σ.length + 2]? = some z := by rw [List.getElem?_append_right (by simp)]; simp
theorem s2 (σ : St) (x y z u : Ob) (ex : St) : (σ ++ x :: y :: z :: ex).set (σ.length + 2) u = σ ++ x :: y :: u :: ex := by rw [List.set_append_right _ _ (by simp)]; simp
def rwC (σ : St) (e : List ByteArray) : AV := if e.isEmpty then .nils else .osl (σ.length + 2) e.length
def rwS (e : List ByteArray) : St := if e.isEmpty then [] else [.row 1 (txs e)]
theorem rwC_of (σ : St) {e : List ByteArray} (h : e.isEmpty = false) : rwC σ e = .osl (σ.length + 2) e.length := by unfold rwC; rw [h]; rfl
theorem rwS_of {e : List ByteArray} (h : e.isEmpty = false) : rwS e = [.row 1 (txs e)] := by unfold rwS; rw [h]; rfl
section
variable (σ : St)
theorem rule_in (ds es : List (Int × Int × Int)) (sel : Int) (lo hi : Nat) (ns : List Int) (b : Bool × Nat × Nat) (xs ys : List AV)
  (hS : ∀ σ, Ans Tryz.prog 41 [.sl 3 (ds.map dv), Bo true] σ (.sl 3 xs) σ) (hT : ∀ σ, Ans Tryz.prog 41 [.sl 3 (es.map dv), Bo true] σ (.sl 3 ys) σ)
  (hxs : ∀ n, Bel n (.sl 3 xs)) (hys : ∀ n, Bel n (.sl 3 ys)) (hb : ∀ σ, Ans Tryz.prog 42 [.agg [I sel, Fl lo, Fl hi]] σ (.agg [Bo b.1, Fl b.2.1, Fl b.2.2]) σ) :
  Ans Tryz.prog 18 [.agg [.sl 3 (ds.map dv), .sl 3 (es.map dv), I sel, Fl lo, Fl hi, .sl 1 (ns.map I)]] σ (.agg [.sl 3 xs, .sl 3 ys, Bo b.1, Fl b.2.1, Fl b.2.2, .sl 1 (txs (drawnEq ns))]) σ := by
 have hbr : ∀ L, Bel σ.length (.agg [.sl 3 xs, .sl 3 ys, Bo b.1, Fl b.2.1, Fl b.2.2, .sl 1 (txs L)]) := fun L => .agg _ fun i hi => by
  have : ∀ y ∈ ([.sl 3 xs, .sl 3 ys, Bo b.1, Fl b.2.1, Fl b.2.2, .sl 1 (txs L)] : List AV), Bel σ.length y := by
   intro y hy
   simp only [List.mem_cons, List.not_mem_nil, or_false] at hy
   rcases hy with rfl | rfl | rfl | rfl | rfl | rfl
   · exact hxs _
   · exact hys _
   · exact .pl _
   · exact .pl _
   · exact .pl _
   · exact bel_txs _ L
  exact this _ (List.getElem_mem hi)
 refine Ans.of_run' t18 (fun hbel _ => ?_)
 have hbel' : (∀ o ∈ σ, BelO σ.length o) = True := eq_true hbel
 simp -implicitDefEqProofs only [c18, r18, go_sem, g0, s0, List.append_assoc, List.length_append, D_callS, List.take_left, hbel', Nat.le_add_right]
 first | refine CD.intro (hS _) ?_ | refine CS.intro hS ?_
 simp -implicitDefEqProofs only [go_sem, g0, s0, D_callS]
 first | refine CD.intro (hT _) ?_ | refine CS.intro hT ?_
 simp -implicitDefEqProofs only [go_sem, g0, s0, D_callS]
 first | refine CD.intro (hb _) ?_ | refine CS.intro hb ?_
 simp -implicitDefEqProofs only [go_sem, g0, s0, D_callS]
 obtain ⟨b1, b2, b3⟩ := b
 simp only
 generalize hres : drawnEq ns = res
 clear hS hT hb
 generalize hD : AV.sl 3 (ds.map dv) = D1
 generalize hE : AV.sl 3 (es.map dv) = D2
 have hmap : ∀ i (h : i < ns.length), (ns.map I)[i]? = some (I ns[i]) := fun i h => by simp [h]
 have hml : (ns.map I).length = ns.length := by simp
 generalize ns.map I = nsI at hmap hml ⊢
 refine Go.Ab.L.intro (α := { x : Nat × List ByteArray // x.1 ≤ 5 ∧ x.2.length ≤ x.1 ∧ eqGo ns (nm5.drop x.1) x.2 = res }) (fun x => 5 - x.1.1)
  (fun x => mkE 56 [(1, .rp [D1, D2, I sel, Fl lo, Fl hi, .sl 1 nsI]), (2, .ptr σ.length 0), (3, .ptr (σ.length + 1) 0), (4, I x.1.1)])
  (fun x => σ ++ [.box [.nils, .nils, Bo false, Fl 0, Fl 0, .nils]] ++ [.box [AV.sl 3 xs, AV.sl 3 ys, Bo b1, Fl b2, Fl b3, rwC σ x.1.2]] ++ rwS x.1.2)
  (fun x J hJ => ?_) ⟨(0, []), Nat.zero_le _, Nat.zero_le _, hres⟩ (by simp [mkE]) (by simp [rwC, rwS])
 obtain ⟨⟨n, e⟩, hn, he, hg⟩ := x
 simp only at hn he hg hJ ⊢
 have hJ' : ∀ m e', n < m → m ≤ 5 → e'.length ≤ m → eqGo ns (nm5.drop m) e' = res → J (mkE 56 [(1, .rp [D1, D2, I sel, Fl lo, Fl hi, .sl 1 nsI]), (2, .ptr σ.length 0), (3, .ptr (σ.length + 1) 0), (4, I m)]) (σ ++ [.box [.nils, .nils, Bo false, Fl 0, Fl 0, .nils]] ++ [.box [AV.sl 3 xs, AV.sl 3 ys, Bo b1, Fl b2, Fl b3, rwC σ e']] ++ rwS e') :=
  fun m e' h1 h2 h3 h4 => hJ ⟨(m, e'), h2, h3, h4⟩ (by simp only; omega)
 clear hJ
 have d4 : decide (((e.length : Nat) : Int) < 4) = decide (e.length < 4) := by rw [Bool.eq_iff_iff]; simp only [decide_eq_true_eq]; omega
 have d5 : decide ((n : Int) < 5) = decide (n < 5) := by rw [Bool.eq_iff_iff]; simp only [decide_eq_true_eq]; omega
 have n21 : (σ.length + 2 ≠ σ.length + 1) = True := eq_true (by omega)
 have n12 : (σ.length + 1 ≠ σ.length + 2) = True := eq_true (by omega)
 have hfin : ∀ env (ex : St) z, env = z → resA env (σ ++ .box [.sl 3 xs, .sl 3 ys, Bo b1, Fl b2, Fl b3, .sl 1 (txs res)] :: ex) [RV.cell 2 6 true] = some (.agg [.sl 3 xs, .sl 3 ys, Bo b1, Fl b2, Fl b3, .sl 1 (txs res)]) →
   (∀ o ∈ σ, BelO σ.length o) → Fini σ.length [RV.cell 2 6 true] (.agg [.sl 3 xs, .sl 3 ys, Bo b1, Fl b2, Fl b3, .sl 1 (txs res)]) σ .ret z (σ ++ .box [.sl 3 xs, .sl 3 ys, Bo b1, Fl b2, Fl b3, .sl 1 (txs res)] :: ex) := by
  intro env ex z hz h1 h2
  subst hz
  exact Fini.trim2 (σ' := σ) h1 rfl (Nat.le_refl _) (hbr res) h2
 by_cases h5 : n < 5
 · obtain ⟨s, hs1, hs2⟩ : ∃ s, nm5.drop n = s :: nm5.drop (n + 1) ∧ (List.drop n [Sx ⟨#[90, 111, 110, 101, 57]⟩, Sx ⟨#[95, 120]⟩, Sx ⟨#[104, 111, 115, 116]⟩, Sx ⟨#[106, 111, 98]⟩, Sx ⟨#[115, 101, 118]⟩]).head? = some (Sx s) := by
    have : n = 0 ∨ n = 1 ∨ n = 2 ∨ n = 3 ∨ n = 4 := by omega
    rcases this with rfl | rfl | rfl | rfl | rfl <;> exact ⟨_, rfl, rfl⟩
   have h5' : decide (n < 5) = true := by simpa using h5
   have k1 : ((n : Int) < 5) = True := eq_true (by omega)
   have k2 : (n + 1 ≤ 5) = True := eq_true (by omega)
   have hws : IntKind.i64.wrap ((n : Int) + 1) = ((n + 1 : Nat) : Int) := by rw [wrapN (by omega) (by omega)]; rfl
   rw [hs1, eqGo] at hg
   have q1 : (e.length + 1 ≤ 4294967296) = True := eq_true (by omega)
   have q3 : (1 ≤ 2 ^ 32) = True := eq_true (by decide)
   have q2 : (e.length + 1 ≤ 2 ^ 32) = True := eq_true (by omega)
   by_cases h4 : e.length < 4
   · have h4' : decide (e.length < 4) = true := by simpa using h4
     rw [if_pos h4] at hg
     generalize hfd : hasN (ns.take 9) s = fd at hg
     have hle : (if fd then e ++ [s] else e).length ≤ n + 1 := by cases fd <;> simp <;> omega
     have hJ2 := hJ' (n + 1) (if fd then e ++ [s] else e) (by omega) (by omega) hle hg
     clear hJ'
     cases hem : e.isEmpty with
     | true =>
       have hee : e = [] := List.isEmpty_iff.1 hem
       subst hee
       have hr0 : rwC σ [] = .nils := rfl
       have hq0 : rwS [] = [] := rfl
       rw [hr0, hq0]
       simp -implicitDefEqProofs only [mkE, go_sem, g0, s0, g1, s1, g2, s2, List.append_assoc, List.length_append, List.length_cons, List.length_nil, Nat.add_assoc, Int.reduceToNat, Int.cast_ofNat_Int, Int.toNat_zero, d5, h5', k1, k2, Nat.mul_one, hs2]
       refine Go.Ab.L.intro (α := { i : Nat // i ≤ ns.length ∧ i ≤ 9 ∧ hasN ((ns.take 9).drop i) s = fd }) (fun x => ns.length - x.1)
        (fun x => mkE 56 [(1, .rp [D1, D2, I sel, Fl lo, Fl hi, .sl 1 nsI]), (2, .ptr σ.length 0), (3, .ptr (σ.length + 1) 0), (4, I n), (5, Sx s), (6, I x.1)])
        (fun x => σ ++ [.box [.nils, .nils, Bo false, Fl 0, Fl 0, .nils], .box [.sl 3 xs, .sl 3 ys, Bo b1, Fl b2, Fl b3, .nils]])
        (fun x J2 hJ3 => ?_) ⟨0, Nat.zero_le _, Nat.zero_le _, hfd⟩ rfl rfl
       obtain ⟨i, hi, hi9, hf⟩ := x
       simp only at hi hi9 hf hJ3 ⊢
       have hno : (¬ i < ns.length ∨ ¬ i < 9) → fd = false := fun h => by
        rw [List.drop_of_length_le (by rw [List.length_take]; omega)] at hf
        exact hf.symm
       have e9 : decide ((i : Int) < 9) = decide (i < 9) := by rw [Bool.eq_iff_iff]; simp only [decide_eq_true_eq]; omega
       by_cases hlt : i < ns.length
       · by_cases h9 : i < 9
         · have h9' : decide (i < 9) = true := by simpa using h9
           have hgx := hmap i hlt
           have hwi : IntKind.i64.wrap ((i : Int) + 1) = ((i + 1 : Nat) : Int) := by rw [wrapN (by omega) (by omega)]; rfl
           have hdr : (ns.take 9).drop i = ns[i] :: (ns.take 9).drop (i + 1) := by
            rw [List.drop_eq_getElem_cons (by rw [List.length_take]; omega), List.getElem_take]
           rw [hdr, hasN, List.any_cons] at hf
           have hJ4 := fun h => hJ3 ⟨i + 1, hlt, h9, h⟩ (by simp only; omega)
           simp only at hJ4
           clear hJ3
           simp -implicitDefEqProofs only [mkE, go_sem, g0, s0, g1, s1, g2, s2, List.append_assoc, List.length_append, List.length_cons, List.length_nil, Nat.add_assoc, Int.reduceToNat, Int.cast_ofNat_Int, Int.toNat_zero, hml, nat_lt hlt, dec_lt hlt, e9, h9', hgx]
           refine CO.intro (name_ans _ _) ?_
           simp -implicitDefEqProofs only [go_sem, g0, s0, g1, s1, g2, s2, List.append_assoc, List.length_append, List.length_cons, List.length_nil, Nat.add_assoc, Int.reduceToNat, Int.cast_ofNat_Int, Int.toNat_zero]
           cases hq : ((nameOf ns[i]).toList == s.toList) with
           | true =>
             have hfd1 : fd = true := by rw [hq, Bool.true_or] at hf; exact hf.symm
             rw [hfd1, if_pos rfl, rwC_of σ (by simp), rwS_of (by simp), txs_snoc, List.length_append] at hJ2
             simp -implicitDefEqProofs only [go_sem, g0, s0, g1, s1, g2, s2, List.append_assoc, List.length_append, List.length_cons, List.length_nil, Nat.add_assoc, Int.reduceToNat, Int.cast_ofNat_Int, Int.toNat_zero, hq, txs_len, txs_all, hws, q1, q2, q3, txs_nil]
             simp only [List.append_assoc, List.cons_append, List.nil_append, List.append_nil, List.length_cons, List.length_nil, Nat.zero_add, txs_nil] at hJ2
             exact hJ2
           | false =>
             rw [hq, Bool.false_or] at hf
             simp -implicitDefEqProofs only [go_sem, g0, s0, g1, s1, g2, s2, List.append_assoc, List.length_append, List.length_cons, List.length_nil, Nat.add_assoc, Int.reduceToNat, Int.cast_ofNat_Int, Int.toNat_zero, hq, hwi]
             exact hJ4 hf
         · have h9' : decide (i < 9) = false := by simpa using h9
           have hff := hno (Or.inr h9)
           rw [hff, if_neg Bool.false_ne_true] at hJ2
           rw [hr0, hq0] at hJ2
           simp -implicitDefEqProofs only [mkE, go_sem, g0, s0, g1, s1, g2, s2, List.append_assoc, List.length_append, List.length_cons, List.length_nil, Nat.add_assoc, Int.reduceToNat, Int.cast_ofNat_Int, Int.toNat_zero, hml, nat_lt hlt, dec_lt hlt, e9, h9', hws]
           simp only [List.append_assoc, List.cons_append, List.nil_append, List.append_nil, List.length_cons, List.length_nil, Nat.zero_add, txs_nil] at hJ2
           exact hJ2
       · have hff := hno (Or.inl hlt)
         rw [hff, if_neg Bool.false_ne_true] at hJ2
         rw [hr0, hq0] at hJ2
         simp -implicitDefEqProofs only [mkE, go_sem, g0, s0, g1, s1, g2, s2, List.append_assoc, List.length_append, List.length_cons, List.length_nil, Nat.add_assoc, Int.reduceToNat, Int.cast_ofNat_Int, Int.toNat_zero, hml, nat_nlt hlt, dec_nlt hlt, hws]
         simp only [List.append_assoc, List.cons_append, List.nil_append, List.append_nil, List.length_cons, List.length_nil, Nat.zero_add, txs_nil] at hJ2
         exact hJ2
     | false =>
       rw [rwC_of σ hem, rwS_of hem]
       simp -implicitDefEqProofs only [mkE, go_sem, g0, s0, g1, s1, g2, s2, List.append_assoc, List.length_append, List.length_cons, List.length_nil, Nat.add_assoc, Int.reduceToNat, Int.cast_ofNat_Int, Int.toNat_zero, d4, d5, h4', h5', k1, k2, Nat.mul_one, hs2, txs_len]
       refine Go.Ab.L.intro (α := { i : Nat // i ≤ ns.length ∧ i ≤ 9 ∧ hasN ((ns.take 9).drop i) s = fd }) (fun x => ns.length - x.1)
        (fun x => mkE 56 [(1, .rp [D1, D2, I sel, Fl lo, Fl hi, .sl 1 nsI]), (2, .ptr σ.length 0), (3, .ptr (σ.length + 1) 0), (4, I n), (5, Sx s), (6, I x.1)])
        (fun x => σ ++ [.box [.nils, .nils, Bo false, Fl 0, Fl 0, .nils], .box [.sl 3 xs, .sl 3 ys, Bo b1, Fl b2, Fl b3, .osl (σ.length + 2) e.length], .row 1 (txs e)])
        (fun x J2 hJ3 => ?_) ⟨0, Nat.zero_le _, Nat.zero_le _, hfd⟩ rfl rfl
       obtain ⟨i, hi, hi9, hf⟩ := x
       simp only at hi hi9 hf hJ3 ⊢
       have hno : (¬ i < ns.length ∨ ¬ i < 9) → fd = false := fun h => by
        rw [List.drop_of_length_le (by rw [List.length_take]; omega)] at hf
        exact hf.symm
       have e9 : decide ((i : Int) < 9) = decide (i < 9) := by rw [Bool.eq_iff_iff]; simp only [decide_eq_true_eq]; omega
       by_cases hlt : i < ns.length
       · by_cases h9 : i < 9
         · have h9' : decide (i < 9) = true := by simpa using h9
           have hgx := hmap i hlt
           have hwi : IntKind.i64.wrap ((i : Int) + 1) = ((i + 1 : Nat) : Int) := by rw [wrapN (by omega) (by omega)]; rfl
           have hdr : (ns.take 9).drop i = ns[i] :: (ns.take 9).drop (i + 1) := by
            rw [List.drop_eq_getElem_cons (by rw [List.length_take]; omega), List.getElem_take]
           rw [hdr, hasN, List.any_cons] at hf
           have hJ4 := fun h => hJ3 ⟨i + 1, hlt, h9, h⟩ (by simp only; omega)
           simp only at hJ4
           clear hJ3
           simp -implicitDefEqProofs only [mkE, go_sem, g0, s0, g1, s1, g2, s2, List.append_assoc, List.length_append, List.length_cons, List.length_nil, Nat.add_assoc, Int.reduceToNat, Int.cast_ofNat_Int, Int.toNat_zero, hml, nat_lt hlt, dec_lt hlt, e9, h9', hgx]
           refine CO.intro (name_ans _ _) ?_
           simp -implicitDefEqProofs only [go_sem, g0, s0, g1, s1, g2, s2, List.append_assoc, List.length_append, List.length_cons, List.length_nil, Nat.add_assoc, Int.reduceToNat, Int.cast_ofNat_Int, Int.toNat_zero]
           cases hq : ((nameOf ns[i]).toList == s.toList) with
           | true =>
             have hfd1 : fd = true := by rw [hq, Bool.true_or] at hf; exact hf.symm
             rw [hfd1, if_pos rfl, rwC_of σ (by simp), rwS_of (by simp), txs_snoc, List.length_append] at hJ2
             simp -implicitDefEqProofs only [go_sem, g0, s0, g1, s1, g2, s2, List.append_assoc, List.length_append, List.length_cons, List.length_nil, Nat.add_assoc, Int.reduceToNat, Int.cast_ofNat_Int, Int.toNat_zero, hq, txs_len, txs_all, hws, q1, q2, q3, txs_nil]
             simp only [List.append_assoc, List.cons_append, List.nil_append, List.append_nil, List.length_cons, List.length_nil, Nat.zero_add, txs_nil] at hJ2
             exact hJ2
           | false =>
             rw [hq, Bool.false_or] at hf
             simp -implicitDefEqProofs only [go_sem, g0, s0, g1, s1, g2, s2, List.append_assoc, List.length_append, List.length_cons, List.length_nil, Nat.add_assoc, Int.reduceToNat, Int.cast_ofNat_Int, Int.toNat_zero, hq, hwi]
             exact hJ4 hf
         · have h9' : decide (i < 9) = false := by simpa using h9
           have hff := hno (Or.inr h9)
           rw [hff, if_neg Bool.false_ne_true] at hJ2
           rw [rwC_of σ hem, rwS_of hem] at hJ2
           simp -implicitDefEqProofs only [mkE, go_sem, g0, s0, g1, s1, g2, s2, List.append_assoc, List.length_append, List.length_cons, List.length_nil, Nat.add_assoc, Int.reduceToNat, Int.cast_ofNat_Int, Int.toNat_zero, hml, nat_lt hlt, dec_lt hlt, e9, h9', hws]
           simp only [List.append_assoc, List.cons_append, List.nil_append, List.append_nil, List.length_cons, List.length_nil, Nat.zero_add, txs_nil] at hJ2
           exact hJ2
       · have hff := hno (Or.inl hlt)
         rw [hff, if_neg Bool.false_ne_true] at hJ2
         rw [rwC_of σ hem, rwS_of hem] at hJ2
         simp -implicitDefEqProofs only [mkE, go_sem, g0, s0, g1, s1, g2, s2, List.append_assoc, List.length_append, List.length_cons, List.length_nil, Nat.add_assoc, Int.reduceToNat, Int.cast_ofNat_Int, Int.toNat_zero, hml, nat_nlt hlt, dec_nlt hlt, hws]
         simp only [List.append_assoc, List.cons_append, List.nil_append, List.append_nil, List.length_cons, List.length_nil, Nat.zero_add, txs_nil] at hJ2
         exact hJ2
   · have h4' : decide (e.length < 4) = false := by simpa using h4
     rw [if_neg h4] at hg
     subst hg
     have hem : e.isEmpty = false := by cases e with | nil => simp at h4 | cons _ _ => rfl
     rw [rwC_of σ hem, rwS_of hem]
     simp -implicitDefEqProofs only [mkE, go_sem, g0, s0, g1, s1, g2, s2, List.append_assoc, List.length_append, List.length_cons, List.length_nil, Nat.add_assoc, Int.reduceToNat, Int.cast_ofNat_Int, Int.toNat_zero, d4, d5, h4', h5', txs_len, n21, n12]
     exact hfin _ _ _ rfl (by simp -implicitDefEqProofs only [go_sem, resA, allSome, rvA, oneOf, g0]) hbel
 · have : n = 5 := by omega
   subst this
   rw [show nm5.drop 5 = [] from rfl, eqGo] at hg
   subst hg
   have h5' : decide ((5 : Nat) < 5) = false := by decide
   cases hem : e.isEmpty with
   | true =>
     have hee : e = [] := List.isEmpty_iff.1 hem
     subst hee
     have hr0 : rwC σ [] = .nils := rfl
     have hq0 : rwS [] = [] := rfl
     rw [hr0, hq0]
     simp -implicitDefEqProofs only [mkE, go_sem, g0, s0, g1, s1, g2, s2, List.append_assoc, List.length_append, List.length_cons, List.length_nil, Nat.add_assoc, Int.reduceToNat, Int.cast_ofNat_Int, Int.toNat_zero, d5, h5', n21, n12]
     exact hfin _ _ _ rfl (by simp -implicitDefEqProofs only [go_sem, resA, allSome, rvA, oneOf, g0]) hbel
   | false =>
     rw [rwC_of σ hem, rwS_of hem]
     simp -implicitDefEqProofs only [mkE, go_sem, g0, s0, g1, s1, g2, s2, List.append_assoc, List.length_append, List.length_cons, List.length_nil, Nat.add_assoc, Int.reduceToNat, Int.cast_ofNat_Int, Int.toNat_zero, d5, h5', txs_len, n21, n12]
     exact hfin _ _ _ rfl (by simp -implicitDefEqProofs only [go_sem, resA, allSome, rvA, oneOf, g0]) hbel
end
end Go.Proofs.YtoadgajhkhejiaaGreat
namespace Go.Ab
open Go Go.ChangeShapes Go.WideShapes
theorem Reads.weak {P : Program} {t : TypeId} {f : Nat} {Q Q' : List AV → Prop} (h : Reads P t f Q) (hq : ∀ xs, Q xs → ∃ ys, Q' ys ∧ Subs xs ys) : Reads P t f Q' := by
 intro H enc W cs x hx
 obtain ⟨xs, h1, h2⟩ := h H enc W cs x hx
 obtain ⟨ys, h3, h4⟩ := hq xs h2
 exact ⟨ys, h4.reps h1, h3⟩
def QFloat : List AV → Prop := fun xs => ∃ n : Nat, xs = [.pl (.float .f64 n)]
theorem Reads.float {P : Program} {t : TypeId} (ht : P.underlying t = some (.float .f64)) (f : Nat) : Reads P t f QFloat := by
 intro H enc W cs x h
 have : ∃ n, cs = [.float .f64 n] := by
  cases f with
  | zero => simp [DataW.trod] at h
  | succ n =>
    unfold DataW.trod at h
    rw [ht] at h
    split at h <;> simp_all
 obtain ⟨n, rfl⟩ := this
 exact ⟨_, reps_one (.pl _), n, rfl⟩
def QSl (sz : Nat) (ag : Bool) (Q : List AV → Prop) : List AV → Prop := fun xs => ∃ ys : List (List AV), (∀ y ∈ ys, Q y) ∧ ys.length ≤ maxLen ∧ xs = [.sl sz (ys.map (wrapC ag))]
theorem QSlice.weak {sz : Nat} {ag : Bool} {Q : List AV → Prop} (xs : List AV) (h : QSlice sz ag Q xs) : ∃ ys, QSl sz ag Q ys ∧ Subs xs ys := by
 rcases h with rfl | ⟨ys, h1, h2, rfl⟩
 · exact ⟨_, ⟨[], by simp, by simp, rfl⟩, .cons (.nils sz) .nil⟩
 · exact ⟨_, ⟨ys, h1, h2, rfl⟩, Subs.refl _⟩
end Go.Ab
namespace Go.Proofs.YtoadgajhkhejiaaGreat
open Go Go.Ab Go.ChangeShapes Go.WideShapes Go.ChangeAt Go.RowKit
set_option maxRecDepth 100000
def QMat : List AV → Prop := fun xs => ∃ d : Int × Int × Int, xs = [I d.1, I d.2.1, I d.2.2]
theorem reads_mat (f : Nat) : Reads Tryz.prog 83 f QMat := by
 cases f with
 | zero => exact Reads.zero
 | succ f =>
   have h := Reads.struct (P := Tryz.prog) (t := 83) (f := f) (Qs := [QInt .i64, QInt .i64, QInt .i64]) Tryz.underlying83 (by kernel_rfl) rfl (by
    intro p hp
    simp only [List.zip_cons_cons, List.zip_nil_right, List.mem_cons, List.not_mem_nil, or_false] at hp
    rcases hp with rfl | rfl | rfl
    · exact Reads.int Tryz.underlying3 f
    · exact Reads.int Tryz.underlying3 f
    · exact Reads.int Tryz.underlying3 f)
   refine h.mono fun xs hq => ?_
   obtain ⟨_, b, rfl, ⟨k, _, rfl⟩, _, d, rfl, ⟨n, _, rfl⟩, _, _, rfl, ⟨v, _, rfl⟩, rfl⟩ := hq
   exact ⟨(k, n, v), rfl⟩
theorem dmats_of : ∀ {ys : List (List AV)}, (∀ y ∈ ys, QMat y) → ∃ ds : List (Int × Int × Int), ds.length = ys.length ∧ ys.map (wrapC true) = ds.map dv
 | [], _ => ⟨[], rfl, rfl⟩
 | y :: ys, h => by
   obtain ⟨d, rfl⟩ := h y List.mem_cons_self
   obtain ⟨ds, hl, hns⟩ := dmats_of fun y hy => h y (List.mem_cons_of_mem _ hy)
   exact ⟨d :: ds, by simp [hl], by rw [List.map_cons, hns]; rfl⟩
theorem ints_of : ∀ {ys : List (List AV)}, (∀ y ∈ ys, QInt .i64 y) → ∃ ns : List Int, ys.map (wrapC false) = ns.map I
 | [], _ => ⟨[], rfl⟩
 | y :: ys, h => by
   obtain ⟨n, _, rfl⟩ := h y List.mem_cons_self
   obtain ⟨ns, hns⟩ := ints_of fun y hy => h y (List.mem_cons_of_mem _ hy)
   exact ⟨n :: ns, by rw [List.map_cons, hns]; rfl⟩
def QMats : List AV → Prop := fun xs => ∃ ds : List (Int × Int × Int), ds.length ≤ 9223372036854775807 ∧ xs = [.sl 3 (ds.map dv)]
def QInts : List AV → Prop := fun xs => ∃ ns : List Int, xs = [.sl 1 (ns.map I)]
theorem reads_mats (f : Nat) : Reads Tryz.prog 43 f QMats := by
 cases f with
 | zero => exact Reads.zero
 | succ f =>
   refine ((Reads.slice (sz := 3) true Tryz.underlying43 (by kernel_rfl) (by decide) (reads_mat f) (fun _ _ _ => rfl)).weak QSlice.weak).mono fun xs hq => ?_
   obtain ⟨ys, h1, h2, rfl⟩ := hq
   obtain ⟨ds, hl, e⟩ := dmats_of h1
   have hml : maxLen = 9223372036854775807 := by decide
   exact ⟨ds, by omega, by rw [e]⟩
theorem reads_ints (f : Nat) : Reads Tryz.prog 29 f QInts := by
 cases f with
 | zero => exact Reads.zero
 | succ f =>
   refine ((Reads.slice (sz := 1) false Tryz.underlying29 (by kernel_rfl) (by decide) (Reads.int Tryz.underlying3 f) (fun y hy _ => by obtain ⟨n, _, rfl⟩ := hy; rfl)).weak QSlice.weak).mono fun xs hq => ?_
   obtain ⟨ys, h1, h2, rfl⟩ := hq
   obtain ⟨ds, e⟩ := ints_of h1
   exact ⟨ds, by rw [e]⟩
def QDBand : List AV → Prop := fun xs => ∃ (b : Int) (lo hi : Nat), xs = [I b, Fl lo, Fl hi]
theorem reads_dband (f : Nat) : Reads Tryz.prog 45 f QDBand := by
 cases f with
 | zero => exact Reads.zero
 | succ f =>
   have h := Reads.struct (P := Tryz.prog) (t := 45) (f := f) (Qs := [QInt .i64, QFloat, QFloat]) Tryz.underlying45 (by kernel_rfl) rfl (by
    intro p hp
    simp only [List.zip_cons_cons, List.zip_nil_right, List.mem_cons, List.not_mem_nil, or_false] at hp
    rcases hp with rfl | rfl | rfl
    · exact Reads.int Tryz.underlying3 f
    · exact Reads.float Tryz.underlying23 f
    · exact Reads.float Tryz.underlying23 f)
   refine h.mono fun xs hq => ?_
   obtain ⟨_, _, rfl, ⟨k, _, rfl⟩, _, _, rfl, ⟨n, rfl⟩, _, _, rfl, ⟨v, rfl⟩, rfl⟩ := hq
   exact ⟨k, n, v, rfl⟩
structure RuD where
 ds : List (Int × Int × Int)
 es : List (Int × Int × Int)
 sel : Int
 lo : Nat
 hi : Nat
 ns : List Int
 hd : ds.length ≤ 9223372036854775807
 he : es.length ≤ 9223372036854775807
def duC (d : RuD) : List AV := [.sl 3 (d.ds.map dv), .sl 3 (d.es.map dv), I d.sel, Fl d.lo, Fl d.hi, .sl 1 (d.ns.map I)]
def QDRu : List AV → Prop := fun xs => ∃ d : RuD, xs = duC d
def QDAl : List AV → Prop := fun xs => ∃ (ns : List Int) (v : Nat), xs = [.sl 1 (ns.map I), Fl v]
theorem reads_drule (f : Nat) : Reads Tryz.prog 47 f QDRu := by
 cases f with
 | zero => exact Reads.zero
 | succ f =>
   have h := Reads.struct (P := Tryz.prog) (t := 47) (f := f) (Qs := [QMats, QMats, QDBand, QInts]) Tryz.underlying47 (by kernel_rfl) rfl (by
    intro p hp
    simp only [List.zip_cons_cons, List.zip_nil_right, List.mem_cons, List.not_mem_nil, or_false] at hp
    rcases hp with rfl | rfl | rfl | rfl
    · exact reads_mats f
    · exact reads_mats f
    · exact reads_dband f
    · exact reads_ints f)
   refine h.mono fun xs hq => ?_
   obtain ⟨_, _, rfl, ⟨M, hM, rfl⟩, _, _, rfl, ⟨N, hN, rfl⟩, _, _, rfl, ⟨b, lo, hi, rfl⟩, _, _, rfl, ⟨e, rfl⟩, rfl⟩ := hq
   exact ⟨⟨M, N, b, lo, hi, e, hM, hN⟩, rfl⟩
theorem reads_dalert (f : Nat) : Reads Tryz.prog 31 f QDAl := by
 cases f with
 | zero => exact Reads.zero
 | succ f =>
   have h := Reads.struct (P := Tryz.prog) (t := 31) (f := f) (Qs := [QInts, QFloat]) Tryz.underlying31 (by kernel_rfl) rfl (by
    intro p hp
    simp only [List.zip_cons_cons, List.zip_nil_right, List.mem_cons, List.not_mem_nil, or_false] at hp
    rcases hp with rfl | rfl
    · exact reads_ints f
    · exact Reads.float Tryz.underlying23 f)
   refine h.mono fun xs hq => ?_
   obtain ⟨_, _, rfl, ⟨ns, rfl⟩, _, _, rfl, ⟨v, rfl⟩, rfl⟩ := hq
   exact ⟨ns, v, rfl⟩
def duV (d : RuD) : AV := .agg (duC d)
section
variable {H : Type} {enc : TypeId × Value → H} {W : World} {base : Nat} {v : Value} {d : DataW H} {ps : List MemPlace}
theorem drule_arg (hv : Value.okWide Tryz.prog W .any base 47 v) (h : DataW.Trod enc Tryz.prog W 0 (fun _ => true) true 47 v d ps) : ∃ r : RuD, Rep noM noR W (duV r) v := by
 obtain ⟨cs, rfl, _⟩ := okWide_struct Tryz.underlying47 hv
 obtain ⟨xs, h1, r, rfl⟩ := Reads.argS reads_drule h
 exact ⟨r, h1⟩
theorem dalert_arg (hv : Value.okWide Tryz.prog W .any base 31 v) (h : DataW.Trod enc Tryz.prog W 0 (fun _ => true) true 31 v d ps) : ∃ (ns : List Int) (x : Nat), Rep noM noR W (.agg [.sl 1 (ns.map I), Fl x]) v := by
 obtain ⟨cs, rfl, _⟩ := okWide_struct Tryz.underlying31 hv
 obtain ⟨xs, h1, ns, x, rfl⟩ := Reads.argS reads_dalert h
 exact ⟨ns, x, h1⟩
end
end Go.Proofs.YtoadgajhkhejiaaGreat
namespace Go.Proofs.YtoadgajhkhejiaaGreat
open Go Go.Ab
def allR : List (Fun Tryz.prog) := [⟨5, o5, c5, r5, 55, t5⟩, ⟨7, o7, c7, r7, 9, t7⟩, ⟨19, o19, c19, r19, 30, t19⟩, ⟨16, o16, c16, r16, 10, t16⟩, ⟨8, o8, c8, r8, 65, t8⟩, ⟨12, o12, c12, r12, 21, t12⟩, ⟨42, o42, c42, r42, 40, t42⟩, ⟨14, o14, c14, r14, 14, t14⟩, ⟨38, o38, c38, r38, 23, t38⟩, ⟨26, o26, c26, r26, 20, t26⟩, ⟨33, o33, c33, r33, 10, t33⟩, ⟨35, o35, c35, r35, 23, t35⟩, ⟨49, o49, c49, r49, 7, t49⟩, ⟨10, o10, c10, r10, 15, t10⟩, ⟨81, o81, c81, r81, 19, t81⟩, ⟨60, o60, c60, r60, 9, t60⟩] ++ allF
end Go.Proofs.YtoadgajhkhejiaaGreat
namespace Go.Proofs.YtoadgajhkhejiaaGreat
open Go Go.Ab
/- 3361 steps -/
theorem rr0_ok : Ans Tryz.prog 86 [.ptr 2 0, .pl (.int .i64 0)] [.box [.pl (.int .i64 3), .pl (.string ⟨#[115, 101, 118]⟩), .pl (.string ⟨#[99, 114, 105, 116, 124, 119, 97, 114, 110]⟩)], .box [.pl (.int .i64 0), .pl (.int .u64 0), .pl (.int .u64 0), .pl (.int .u64 0), .pl (.int .u64 0), .nils], .box [.pl (.string ⟨#[99, 114, 105, 116, 124, 119, 97, 114, 110]⟩), .pl (.int .i64 0), .pl (.bool false)]] (.agg [.pl (.int .i64 3), .pl (.int .u64 0), .pl (.int .u64 0), .pl (.int .u64 0), .pl (.int .u64 0), .sl 6 [.agg [.pl (.int .i64 2), .pl (.int .u64 0), .pl (.int .u64 0), .pl (.int .u64 0), .pl (.int .u64 0), .sl 6 [.agg [.pl (.int .i64 1), .pl (.int .u64 0), .pl (.int .u64 34359738368), .pl (.int .u64 0), .pl (.int .u64 0), .nils], .agg [.pl (.int .i64 1), .pl (.int .u64 0), .pl (.int .u64 1125899906842624), .pl (.int .u64 0), .pl (.int .u64 0), .nils], .agg [.pl (.int .i64 1), .pl (.int .u64 0), .pl (.int .u64 2199023255552), .pl (.int .u64 0), .pl (.int .u64 0), .nils], .agg [.pl (.int .i64 1), .pl (.int .u64 0), .pl (.int .u64 4503599627370496), .pl (.int .u64 0), .pl (.int .u64 0), .nils]]], .agg [.pl (.int .i64 2), .pl (.int .u64 0), .pl (.int .u64 0), .pl (.int .u64 0), .pl (.int .u64 0), .sl 6 [.agg [.pl (.int .i64 1), .pl (.int .u64 0), .pl (.int .u64 36028797018963968), .pl (.int .u64 0), .pl (.int .u64 0), .nils], .agg [.pl (.int .i64 1), .pl (.int .u64 0), .pl (.int .u64 8589934592), .pl (.int .u64 0), .pl (.int .u64 0), .nils], .agg [.pl (.int .i64 1), .pl (.int .u64 0), .pl (.int .u64 1125899906842624), .pl (.int .u64 0), .pl (.int .u64 0), .nils], .agg [.pl (.int .i64 1), .pl (.int .u64 0), .pl (.int .u64 70368744177664), .pl (.int .u64 0), .pl (.int .u64 0), .nils]]]]]) [.box [.pl (.int .i64 3), .pl (.string ⟨#[115, 101, 118]⟩), .pl (.string ⟨#[99, 114, 105, 116, 124, 119, 97, 114, 110]⟩)], .box [.pl (.int .i64 0), .pl (.int .u64 0), .pl (.int .u64 0), .pl (.int .u64 0), .pl (.int .u64 0), .nils], .box [.pl (.string ⟨#[99, 114, 105, 116, 124, 119, 97, 114, 110]⟩), .pl (.int .i64 9), .pl (.bool false)]] := evFT_ok allR extF [] 300 100 _ _ _ _ _ (by kernel_rfl)
def rr0 : Memo Tryz.prog := ⟨_, _, _, _, _, rr0_ok⟩
/- 3361 steps -/
theorem rr1_ok : Ans Tryz.prog 86 [.ptr 1 0, .pl (.int .i64 0)] [.box [.pl (.int .i64 0), .pl (.int .u64 0), .pl (.int .u64 0), .pl (.int .u64 0), .pl (.int .u64 0), .nils], .box [.pl (.string ⟨#[99, 114, 105, 116, 124, 119, 97, 114, 110]⟩), .pl (.int .i64 0), .pl (.bool false)]] (.agg [.pl (.int .i64 3), .pl (.int .u64 0), .pl (.int .u64 0), .pl (.int .u64 0), .pl (.int .u64 0), .sl 6 [.agg [.pl (.int .i64 2), .pl (.int .u64 0), .pl (.int .u64 0), .pl (.int .u64 0), .pl (.int .u64 0), .sl 6 [.agg [.pl (.int .i64 1), .pl (.int .u64 0), .pl (.int .u64 34359738368), .pl (.int .u64 0), .pl (.int .u64 0), .nils], .agg [.pl (.int .i64 1), .pl (.int .u64 0), .pl (.int .u64 1125899906842624), .pl (.int .u64 0), .pl (.int .u64 0), .nils], .agg [.pl (.int .i64 1), .pl (.int .u64 0), .pl (.int .u64 2199023255552), .pl (.int .u64 0), .pl (.int .u64 0), .nils], .agg [.pl (.int .i64 1), .pl (.int .u64 0), .pl (.int .u64 4503599627370496), .pl (.int .u64 0), .pl (.int .u64 0), .nils]]], .agg [.pl (.int .i64 2), .pl (.int .u64 0), .pl (.int .u64 0), .pl (.int .u64 0), .pl (.int .u64 0), .sl 6 [.agg [.pl (.int .i64 1), .pl (.int .u64 0), .pl (.int .u64 36028797018963968), .pl (.int .u64 0), .pl (.int .u64 0), .nils], .agg [.pl (.int .i64 1), .pl (.int .u64 0), .pl (.int .u64 8589934592), .pl (.int .u64 0), .pl (.int .u64 0), .nils], .agg [.pl (.int .i64 1), .pl (.int .u64 0), .pl (.int .u64 1125899906842624), .pl (.int .u64 0), .pl (.int .u64 0), .nils], .agg [.pl (.int .i64 1), .pl (.int .u64 0), .pl (.int .u64 70368744177664), .pl (.int .u64 0), .pl (.int .u64 0), .nils]]]]]) [.box [.pl (.int .i64 0), .pl (.int .u64 0), .pl (.int .u64 0), .pl (.int .u64 0), .pl (.int .u64 0), .nils], .box [.pl (.string ⟨#[99, 114, 105, 116, 124, 119, 97, 114, 110]⟩), .pl (.int .i64 9), .pl (.bool false)]] := evFT_ok allR extF [rr0] 300 100 _ _ _ _ _ (by kernel_rfl)
def rr1 : Memo Tryz.prog := ⟨_, _, _, _, _, rr1_ok⟩
/- 3017 steps -/
theorem rr2_ok : Ans Tryz.prog 33 [.agg [.sl 3 [.agg [.pl (.int .i64 1), .pl (.string ⟨#[115, 101, 118]⟩), .pl (.string ⟨#[99, 114, 105, 116]⟩)]], .sl 3 [.agg [.pl (.int .i64 3), .pl (.string ⟨#[115, 101, 118]⟩), .pl (.string ⟨#[99, 114, 105, 116, 124, 119, 97, 114, 110]⟩)]], .pl (.bool true), .pl (.float .f64 0), .pl (.float .f64 0), .sl 1 [.pl (.string ⟨#[99]⟩)]]] [] (.pl (.bool true)) [] := evFT_ok allR extF [rr0, rr1] 300 100 _ _ _ _ _ (by kernel_rfl)
def rr2 : Memo Tryz.prog := ⟨_, _, _, _, _, rr2_ok⟩
/- 4135 steps -/
theorem rr3_ok : Ans Tryz.prog 58 [.agg [.pl (.int .i64 3), .pl (.string ⟨#[115, 101, 118]⟩), .pl (.string ⟨#[99, 114, 105, 116, 124, 119, 97, 114, 110]⟩)], .sl 2 [.agg [.pl (.string ⟨#[99]⟩), .pl (.string ⟨#[120]⟩)], .agg [.pl (.string ⟨#[115, 101, 118]⟩), .pl (.string ⟨#[119, 97, 114, 110]⟩)]]] [] (.pl (.bool true)) [] := evFT_ok allR extF [rr0, rr1, rr2] 300 100 _ _ _ _ _ (by kernel_rfl)
def rr3 : Memo Tryz.prog := ⟨_, _, _, _, _, rr3_ok⟩
/- 4135 steps -/
theorem rr4_ok : Ans Tryz.prog 58 [.agg [.pl (.int .i64 3), .pl (.string ⟨#[115, 101, 118]⟩), .pl (.string ⟨#[99, 114, 105, 116, 124, 119, 97, 114, 110]⟩)], .sl 2 [.agg [.pl (.string ⟨#[99]⟩), .pl (.string ⟨#[121]⟩)], .agg [.pl (.string ⟨#[115, 101, 118]⟩), .pl (.string ⟨#[119, 97, 114, 110]⟩)]]] [] (.pl (.bool true)) [] := evFT_ok allR extF [rr0, rr1, rr2, rr3] 300 100 _ _ _ _ _ (by kernel_rfl)
def rr4 : Memo Tryz.prog := ⟨_, _, _, _, _, rr4_ok⟩
/- 4171 steps -/
theorem rr5_ok : Ans Tryz.prog 58 [.agg [.pl (.int .i64 3), .pl (.string ⟨#[115, 101, 118]⟩), .pl (.string ⟨#[99, 114, 105, 116, 124, 119, 97, 114, 110]⟩)], .sl 2 [.agg [.pl (.string ⟨#[99]⟩), .pl (.string ⟨#[120]⟩)], .agg [.pl (.string ⟨#[115, 101, 118]⟩), .pl (.string ⟨#[99, 114, 105, 116]⟩)]]] [] (.pl (.bool true)) [] := evFT_ok allR extF [rr0, rr1, rr2, rr3, rr4] 300 100 _ _ _ _ _ (by kernel_rfl)
def rr5 : Memo Tryz.prog := ⟨_, _, _, _, _, rr5_ok⟩
/- 4429 steps -/
theorem rr_ok : Ans Tryz.prog 6 [] [] (.pl (.bool true)) [] := evFT_ok allR extF [rr0, rr1, rr2, rr3, rr4, rr5] 300 100 _ _ _ _ _ (by kernel_rfl)
end Go.Proofs.YtoadgajhkhejiaaGreat
namespace Go.Proofs.YtoadgajhkhejiaaGreat
open Go Go.Ab Go.Cod
set_option maxRecDepth 100000
section
variable (σ : St)
theorem rr_a : Ans Tryz.prog 6 [] σ (Bo true) σ := rr_ok.frame (bel_all rfl) σ
end
end Go.Proofs.YtoadgajhkhejiaaGreat
namespace Go.Proofs.YtoadgajhkhejiaaGreat
open Go Go.Ab Go.Cod
set_option maxRecDepth 100000
def drawnRu (d : RuD) : RuM := ⟨mustL true (matsGo d.ds []), mustL true (matsGo d.es []), (drawnBand d.sel d.lo d.hi).1, (drawnBand d.sel d.lo d.hi).2.1, (drawnBand d.sel d.lo d.hi).2.2, drawnEq d.ns⟩
theorem rule_ans (σ : St) (d : RuD) : Ans Tryz.prog 18 [duV d] σ (ruV (drawnRu d)) σ :=
 rule_in σ d.ds d.es d.sel d.lo d.hi d.ns (drawnBand d.sel d.lo d.hi) _ _ (fun σ => mats_ans' σ true d.ds d.hd) (fun σ => mats_ans' σ true d.es d.he)
  (fun n => bel_mvs n _) (fun n => bel_mvs n _) (fun σ => band_ans σ _ _ _)
abbrev daV (ns : List Int) (v : Nat) : AV := .agg [.sl 1 (ns.map I), Fl v]
end Go.Proofs.YtoadgajhkhejiaaGreat
namespace Go.Proofs.YtoadgajhkhejiaaGreat
open Go Go.Ab Go.Cod
set_option maxRecDepth 100000
def subsL : List ByteArray → List (List ByteArray)
 | [] => [[]]
 | x :: xs => subsL xs ++ (subsL xs).map fun l => x :: l
theorem mem_subsL : ∀ {l r : List ByteArray}, l.Sublist r → l ∈ subsL r
 | _, _, .slnil => by simp [subsL]
 | l, x :: r, .cons _ h => List.mem_append_left _ (mem_subsL h)
 | x :: l, _ :: r, .cons_cons _ h => List.mem_append_right _ (List.mem_map.2 ⟨l, mem_subsL h, rfl⟩)
theorem eqGo_sub (ns : List Int) : ∀ (r e : List ByteArray), ∃ l, eqGo ns r e = e ++ l ∧ l.Sublist r
 | [], e => ⟨[], by simp [eqGo], .slnil⟩
 | s :: r, e => by
   rw [eqGo]
   split
   · cases hasN (ns.take 9) s with
     | true =>
       obtain ⟨l, h1, h2⟩ := eqGo_sub ns r (e ++ [s])
       exact ⟨s :: l, by rw [if_pos rfl, h1]; simp, .cons_cons _ h2⟩
     | false =>
       obtain ⟨l, h1, h2⟩ := eqGo_sub ns r e
       exact ⟨l, by rw [if_neg Bool.false_ne_true, h1], .cons _ h2⟩
   · exact ⟨[], by simp, List.nil_sublist _⟩
theorem eqGo_len (ns : List Int) : ∀ (r e : List ByteArray), e.length ≤ 4 → (eqGo ns r e).length ≤ 4
 | [], e, h => by simpa [eqGo] using h
 | s :: r, e, h => by
   rw [eqGo]
   split
   · refine eqGo_len ns r _ ?_
     split
     · simp; omega
     · omega
   · exact h
theorem subs_ok : ∀ l ∈ subsL nm5, l.length ≤ 4 → eqB l = true := by decide +kernel
theorem drawnEq_sub (ns : List Int) : (drawnEq ns).Sublist nm5 := by
 obtain ⟨l, h1, h2⟩ := eqGo_sub ns nm5 []
 unfold drawnEq
 rw [h1]
 exact h2
theorem drawnEq_len (ns : List Int) : (drawnEq ns).length ≤ 4 := eqGo_len ns nm5 [] (by simp)
theorem eqB_sub {e : List ByteArray} (ns : List Int) (h : e.Sublist (drawnEq ns)) : eqB e = true :=
 subs_ok e (mem_subsL (h.trans (drawnEq_sub ns))) (by have := h.length_le; have := drawnEq_len ns; omega)
theorem keyL_cons (L : List Lab) (n : ByteArray) (e : List ByteArray) : keyL L (n :: e) = txtB (getL L n) ++ keyL L e := rfl
theorem keyL_inj (L M : List Lab) (hL : ∀ nm, (getL L nm).size ≤ 100000) (hM : ∀ nm, (getL M nm).size ≤ 100000) : ∀ e, keyL L e = keyL M e → ∀ n ∈ e, getL L n = getL M n
 | [], _, n, h => by cases h
 | x :: e, h, n, hn => by
   rw [keyL_cons, keyL_cons] at h
   have hf := text_fits (most := 100000) (by decide)
   have h1 := hf.fwd (getL L x) (keyL L e) (hL x)
   have h2 := hf.fwd (getL M x) (keyL M e) (hM x)
   rw [h] at h1
   rw [h1] at h2
   simp only [Option.some.injEq, Prod.mk.injEq] at h2
   rcases List.mem_cons.1 hn with rfl | hn
   · exact h2.1
   · exact keyL_inj L M hL hM e h2.2 n hn
theorem keyL_congr (L M : List Lab) : ∀ e, (∀ n ∈ e, getL L n = getL M n) → keyL L e = keyL M e
 | [], _ => rfl
 | x :: e, h => by
   rw [keyL_cons, keyL_cons, h x List.mem_cons_self, keyL_congr L M e fun n hn => h n (List.mem_cons_of_mem _ hn)]
theorem keyEq_iff (e : List ByteArray) (L M : List Lab) : keyEq e L M = true ↔ keyL L e = keyL M e := by
 unfold keyEq
 rw [ByteArray.toList_eq, ByteArray.toList_eq, beq_iff_eq]
end Go.Proofs.YtoadgajhkhejiaaGreat
namespace Go.Proofs.YtoadgajhkhejiaaGreat
open Go Go.Ab Go.Cod
set_option maxRecDepth 100000
theorem names_ok : ∀ n ∈ names, nameB n = true := by decide +kernel
theorem pats_ok : ∀ p ∈ pats, (pparse p).2 = true := by decide +kernel
theorem vals8_ok : ∀ p ∈ vals8, p.size ≤ 24 := by decide +kernel
theorem mok_isB {x : Mz} (h : MOK x) : isB x.1 x.2.1 x.2.2 = true := by
 unfold isB
 rw [names_ok _ h.nm, Bool.true_and]
 have h1 := h.lo
 have h4 := h.hi
 by_cases h3 : x.1 < 3
 · have hl : likeB x.1 = false := by unfold likeB; rw [Bool.or_eq_false_iff]; exact ⟨by simp; omega, by simp; omega⟩
   rw [hl]
   simp only [Bool.false_eq_true, if_false, Bool.and_eq_true, Bool.or_eq_true, beq_iff_eq, decide_eq_true_eq]
   exact ⟨by omega, vals8_ok _ (h.low h3)⟩
 · have hl : likeB x.1 = true := by unfold likeB; rw [Bool.or_eq_true]; simp only [beq_iff_eq]; omega
   rw [hl]
   simp only [if_true]
   exact pats_ok _ (h.high h3)
theorem aheadPD (x y : Mz) : aheadP x y = aheadD x y := by
 unfold aheadP aheadD
 have : (x.1 != y.1) = !(x.1 == y.1) := rfl
 rw [this]
theorem listB_ok {M : List Mz} (h5 : M.length ≤ 5) (ho : ∀ y ∈ M, MOK y) (ha : Adj M) : listB M = true := by
 unfold listB
 rw [decide_eq_true h5, Bool.true_and]
 refine List.all_eq_true.2 fun i hi => ?_
 have hi := List.mem_range.1 hi
 have e : M.getD i noM3 = M[i] := by rw [List.getD_eq_getElem?_getD, List.getElem?_eq_getElem hi]; rfl
 unfold okL isM
 rw [e, mok_isB (ho _ (List.getElem_mem hi)), Bool.true_and]
 cases i with
 | zero => rfl
 | succ i =>
   have e2 : M.getD (i + 1 - 1) noM3 = M[i] := by rw [List.getD_eq_getElem?_getD, Nat.add_sub_cancel, List.getElem?_eq_getElem (by omega)]; rfl
   rw [e2]
   have := ha i M[i] M[i + 1] (by simp) (by simp [hi])
   rw [aheadPD] at this
   rw [this]; simp
theorem listB_mats (ds : List (Int × Int × Int)) : listB (matsGo ds []) = true := by
 obtain ⟨h1, h2, h3⟩ := mats_ok ds
 exact listB_ok h1 h2 h3
end Go.Proofs.YtoadgajhkhejiaaGreat
namespace Go.Proofs.YtoadgajhkhejiaaGreat
open Go Go.Ab Go.Cod Ieee
set_option maxRecDepth 100000
theorem cmpOrd (p q : Int) (h : (some (compare q p) == some Ordering.lt) = false) : (some (compare p q) == some Ordering.lt || some (compare p q) == some Ordering.eq) = true := by
 simp only [compare, compareOfLessAndEq] at h ⊢
 by_cases h1 : q < p
 · rw [if_pos h1] at h; exact absurd h (by decide)
 · by_cases h2 : p < q
   · rw [if_pos h2]; rfl
   · have : p = q := by omega
     rw [if_neg h2, if_pos this]; rfl
theorem leF_tot (a b : Nat) (h1 : nanF a = false) (h2 : nanF b = false) (h3 : ltF b a = false) : leF a b = true := by
 unfold nanF at h1 h2
 unfold ltF at h3
 unfold leF
 unfold Format.order at *
 generalize FloatKind.f64.format.read a = x at *
 generalize FloatKind.f64.format.read b = y at *
 cases x with
 | nan s m => simp [Datum.order] at h1
 | infinity s =>
   cases y with
   | nan t n => simp [Datum.order] at h2
   | infinity t => revert h3; cases s <;> cases t <;> decide
   | number t n j =>
     revert h3
     cases s <;> simp [Datum.order]
 | number s m i =>
   cases y with
   | nan t n => simp [Datum.order] at h2
   | infinity t =>
     revert h3
     cases t <;> simp [Datum.order]
   | number t n j =>
     simp only [Datum.order] at h3 ⊢
     rw [show min j i = min i j from Int.min_comm j i] at h3
     exact cmpOrd _ _ h3
theorem bits_zero : bitsF 0 = 0 := by decide +kernel
theorem band_may (sel : Int) (lo hi : Nat) : mayB (drawnBand sel lo hi).1 (drawnBand sel lo hi).2.1 (drawnBand sel lo hi).2.2 = true := by
 unfold drawnBand
 split
 · simp only [mayB, bits_zero]; rfl
 · rename_i h
   have hn : nanF lo = false ∧ nanF hi = false := by
    cases h1 : nanF lo <;> cases h2 : nanF hi <;> simp_all
   split
   · rename_i h3
     have : leF hi lo = true := by
      unfold ltF at h3
      unfold leF
      rw [h3]; rfl
     simpa [mayB] using this
   · rename_i h3
     have : leF lo hi = true := leF_tot lo hi hn.1 hn.2 (by simpa using h3)
     simpa [mayB] using this
theorem names_sz : ∀ n ∈ names, n.size ≤ 100000 := by decide +kernel
theorem must_list (ds : List (Int × Int × Int)) : listB (mustL true (matsGo ds [])) = true ∧ ((((mustL true (matsGo ds [])).length : Nat) : Int) == 0) = false ∧ ∀ x ∈ mustL true (matsGo ds []), x.2.1.size ≤ 100000 := by
 have hd : listB [(1, ⟨#[115, 101, 118]⟩, ⟨#[97]⟩)] = true := by decide +kernel
 cases hm : matsGo ds [] with
 | nil =>
   refine ⟨hd, by decide, fun x hx => ?_⟩
   have : x = (1, ⟨#[115, 101, 118]⟩, ⟨#[97]⟩) := by simpa [mustL] using hx
   subst this
   decide
 | cons y l =>
   have h := listB_mats ds
   obtain ⟨_, h2, _⟩ := mats_ok ds
   rw [hm] at h h2
   refine ⟨h, by simp [mustL]; omega, fun x hx => ?_⟩
   have hx' : x ∈ y :: l := by simpa [mustL] using hx
   exact names_sz _ (h2 x hx').nm
theorem drawn_is (d : RuD) : ruIs (drawnRu d) = true := by
 have h1 := must_list d.ds
 have h2 := must_list d.es
 have h3 := band_may d.sel d.lo d.hi
 have h4 := eqB_sub d.ns (List.Sublist.refl _)
 unfold ruIs drawnRu
 simp only
 rw [h1.1, h1.2.1, h2.1, h2.2.1, h3, h4]
 rfl
end Go.Proofs.YtoadgajhkhejiaaGreat
