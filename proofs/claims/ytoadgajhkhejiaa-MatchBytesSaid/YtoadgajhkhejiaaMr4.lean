/- Numbers and texts laid as bytes and read out of bytes, by the document: the same as the program's. No condition. -/
import Derived.Test.YtoadgajhkhejiaaPTree2
import Derived.Test.YtoadgajhkhejiaaMr1
import Derived.Test.YtoadgajhkhejiaaRows
import Derived.Test.YtoadgajhkhejiaaCmp
import Derived.Test.YtoadgajhkhejiaaAbArg
set_option linter.unusedSimpArgs false
set_option linter.unusedVariables false
namespace Go.Proofs.Ytoadgajhkhejiaa
open Go Go.Ab Go.Cod
set_option maxRecDepth 100000
theorem tmod128 (n : Nat) : ((n : Int).tmod 128) = ((n % 128 : Nat) : Int) := rfl
theorem tdiv128 (n : Nat) : ((n : Int).tdiv 128) = ((n / 128 : Nat) : Int) := rfl
theorem add128 (n : Nat) : IntKind.u8.wrap (((n % 128 % 256 : Nat) : Int) + 128) = ((n % 128 + 128 : Nat) : Int) := by
  have : (((n % 128 % 256 : Nat) : Int) + 128) = ((n % 128 % 256 + 128 : Nat) : Int) := by push_cast; rfl
  rw [this, wrap8N]
  congr 1; omega
def orD (a d s : Nat) : Int := IntKind.u64.wrap ((BitVec.ofInt 64 (a : Int) ||| BitVec.ofInt 64 (IntKind.u64.wrap ((d : Int) * 2 ^ min s 64))).toNat : Int)
theorem orD_eq (a d s : Nat) (ha : a < 2 ^ s) (hs : s < 64) (hd : d * 2 ^ s < 18446744073709551616) : orD a d s = ((a + 2 ^ s * d : Nat) : Int) := or_shl a d s ha hs hd
theorem shl_bound (i c : Nat) (h : i < 9 ∨ i = 9 ∧ c % 128 ≤ 1) : c % 128 * 2 ^ (7 * i) < 18446744073709551616 := by
  rcases h with h | ⟨rfl, h⟩
  · have h4 : c % 128 < 2 ^ 7 := Nat.mod_lt _ (by decide)
    calc c % 128 * 2 ^ (7 * i) < 2 ^ 7 * 2 ^ (7 * i) := Nat.mul_lt_mul_of_pos_right h4 (Nat.two_pow_pos _)
      _ = 2 ^ (7 + 7 * i) := by rw [Nat.pow_add]
      _ ≤ 2 ^ 63 := Nat.pow_le_pow_right (by decide) (by omega)
      _ < 18446744073709551616 := by decide
  · calc c % 128 * 2 ^ (7 * 9) ≤ 1 * 2 ^ 63 := Nat.mul_le_mul_right _ h
      _ < 18446744073709551616 := by decide
section
variable (σ : St)
theorem dput_ans (n : Nat) (hn : n < 18446744073709551616) : Ans Try.prog 86 [UN n] σ (.osl σ.length (putN n).length) (σ ++ [.row 1 (byv (putN n))]) := by
  have h10 := putN_len10 hn
  refine Ans.of_run t86 ?_
  simp -implicitDefEqProofs only [c86, r86, go_sem, List.reduceReplicate, Nat.reduceAdd, Nat.reduceSub, Nat.reduceLT, Nat.reduceLeDiff, Nat.reduceMul, Nat.reduceEqDiff, reduceCtorEq, Int.reduceLE, Int.reduceLT, Int.reduceEq, Int.reduceNe, Int.reduceBEq, Int.reduceBNe, Int.reduceAdd, Int.reduceSub]
  refine Go.Ab.L.intro (α := { p : Nat × Byt // p.1 < 18446744073709551616 ∧ p.2 ++ putN p.1 = putN n }) (fun p => p.1.1) (fun p => mkE 20 [(0, UN p.1.1), (3, .osl σ.length p.1.2.length)]) (fun p => σ ++ [.row 1 (byv p.1.2)]) ?_ ⟨(n, []), hn, rfl⟩ rfl rfl
  rintro ⟨⟨m, pre⟩, hm, hp⟩ J hJ
  have hl : pre.length + (putN m).length ≤ 10 := by rw [← List.length_append, hp]; exact h10
  have hw := wrapUN hm
  have hle : pre.length + 1 ≤ 2 ^ 32 := by omega
  by_cases h : m < 128
  · have d1 : decide ((128 : Int) ≤ m) = false := by simp; omega
    have d2 : IntKind.u8.wrap (m : Int) = m := by rw [wrap8N]; congr 1; omega
    simp -implicitDefEqProofs only [mkE, List.foldl_cons, List.foldl_nil, go_sem, List.reduceReplicate, Nat.reduceAdd, Nat.reduceSub, Nat.reduceLT, Nat.reduceLeDiff, Nat.reduceMul, Nat.reduceEqDiff, reduceCtorEq, Int.reduceLE, Int.reduceLT, Int.reduceEq, Int.reduceNe, Int.reduceBEq, Int.reduceBNe, Int.reduceAdd, Int.reduceSub, d1, row1, byv_len, List.length_singleton, hle, d2]
    refine Fini.ret3 (n := 0) rfl ?_ ?_
    · show AV.osl σ.length (pre.length + 1) = AV.osl σ.length (putN n).length
      rw [← hp, putN_lt h]; simp
    · rw [List.set_append_right _ _ (Nat.le_refl _)]
      simp only [Nat.sub_self, List.set_cons_zero]
      rw [← hp, byv_append, putN_lt h, bc_of (show m < 256 by omega)]
      rfl
  · have d1 : decide ((128 : Int) ≤ m) = true := by simp; omega
    simp -implicitDefEqProofs only [mkE, List.foldl_cons, List.foldl_nil, go_sem, List.reduceReplicate, Nat.reduceAdd, Nat.reduceSub, Nat.reduceLT, Nat.reduceLeDiff, Nat.reduceMul, Nat.reduceEqDiff, reduceCtorEq, Int.reduceLE, Int.reduceLT, Int.reduceEq, Int.reduceNe, Int.reduceBEq, Int.reduceBNe, Int.reduceAdd, Int.reduceSub, d1, row1, byv_len, List.length_singleton, hle, tmod128, wrap8N (n := m % 128), add128, tdiv128, wrapUN (show m / 128 < 18446744073709551616 by omega)]
    rw [List.set_append_right _ _ (Nat.le_refl _)]
    simp only [Nat.sub_self, List.set_cons_zero]
    have hgo := hJ ⟨(m / 128, pre ++ [(m % 128 + 128).toUInt8]), by simp only; omega, by
      rw [← hp]; simp only [List.append_assoc, List.singleton_append]; rw [putN_ge h]⟩ (by simp only; omega)
    simp only [byv_append, List.length_append, List.length_singleton] at hgo
    rw [bc_of (show m % 128 + 128 < 256 by omega)]
    exact hgo
theorem dputtext_ans (s : ByteArray) (hs : s.size ≤ 4294967280) : Ans Try.prog 87 [Sx s] σ (.sl 1 (byv (txtB s))) σ := by
  have h10 := putN_len10 (n := s.size) (by omega)
  have hsz := size_list s
  have hw := wrapUN (n := s.size) (by omega)
  have hle : (putN s.size).length + s.size ≤ 2 ^ 32 := by omega
  refine Ans.of_run' t87 (fun hbel _ => ?_)
  simp -implicitDefEqProofs only [c87, r87, go_sem, List.reduceReplicate, Nat.reduceAdd, Nat.reduceSub, Nat.reduceLT, Nat.reduceLeDiff, Nat.reduceMul, Nat.reduceEqDiff, reduceCtorEq, Int.reduceLE, Int.reduceLT, Int.reduceEq, Int.reduceNe, Int.reduceBEq, Int.reduceBNe, Int.reduceAdd, Int.reduceSub, hw]
  refine CO.intro (dput_ans σ s.size (by omega)) ?_
  simp -implicitDefEqProofs only [go_sem, List.reduceReplicate, Nat.reduceAdd, Nat.reduceSub, Nat.reduceLT, Nat.reduceLeDiff, Nat.reduceMul, Nat.reduceEqDiff, reduceCtorEq, Int.reduceLE, Int.reduceLT, Int.reduceEq, Int.reduceNe, Int.reduceBEq, Int.reduceBNe, Int.reduceAdd, Int.reduceSub, strA_byv, row1, byv_len, hsz, hle]
  simp -implicitDefEqProofs only [go_sem, List.reduceReplicate, Nat.reduceAdd, Nat.reduceSub, Nat.reduceLT, Nat.reduceLeDiff, Nat.reduceMul, Nat.reduceEqDiff, reduceCtorEq, Int.reduceLE, Int.reduceLT, Int.reduceEq, Int.reduceNe, Int.reduceBEq, Int.reduceBNe, Int.reduceAdd, Int.reduceSub, g0, s0, byv_len, hsz, ← byv_append, List.length_append]
  exact Fini.trim2 (σ' := σ) (by show _ = some (AV.sl 1 (byv (txtB s))); rfl) rfl (Nat.le_refl _) (bel_byv _ _) hbel
theorem dget_ans (b : Byt) (hb : b.length ≤ 100000) : Ans Try.prog 82 [.sl 1 (byv b)] σ (getV b) σ := by
  refine Ans.of_run t82 ?_
  simp -implicitDefEqProofs only [c82, r82, go_sem, List.reduceReplicate, Nat.reduceAdd, Nat.reduceSub, Nat.reduceLT, Nat.reduceLeDiff, Nat.reduceMul, Nat.reduceEqDiff, reduceCtorEq, Int.reduceLE, Int.reduceLT, Int.reduceEq, Int.reduceNe, Int.reduceBEq, Int.reduceBNe, Int.reduceAdd, Int.reduceSub]
  refine Go.Ab.L.intro (α := { p : Nat × Nat // p.1 ≤ b.length ∧ ((p.1 ≤ 9 ∧ p.2 < 2 ^ (7 * p.1) ∧ getN 0 b = (getN p.1 (b.drop p.1)).map fun q => (p.2 + 2 ^ (7 * p.1) * q.1, q.2)) ∨ (p.1 = 10 ∧ getN 0 b = none)) }) (fun p => b.length - p.1.1)
    (fun p => mkE 51 [(0, .sl 1 (byv b)), (5, UN p.1.2), (6, I p.1.1)]) (fun _ => σ) ?_ ⟨(0, 0), Nat.zero_le _, .inl ⟨Nat.zero_le _, by simp, by cases h : getN 0 b <;> simp [h]⟩⟩ rfl rfl
  rintro ⟨⟨i, a⟩, hi, hinv⟩ J hJ
  simp only at hi hinv hJ
  rcases hinv with ⟨h9, ha, hg⟩ | ⟨h10, hg⟩
  · have h10 : decide ((i : Int) < 10) = true := by simp; omega
    by_cases hlt : i < b.length
    · have hx := byv_get b i hlt
      have hdr : b.drop i = b[i] :: b.drop (i + 1) := List.drop_eq_getElem_cons hlt
      rw [hdr] at hg
      have hcl := (b[i]).toNat_lt
      generalize hc : b[i] = c at hx hg hcl
      have hbeq9 : ((i : Int) == 9) = decide (i = 9) := by rw [Bool.eq_iff_iff]; simp; omega
      have hgt1 : decide ((1 : Int) < ((c.toNat % 128 : Nat) : Int)) = decide (1 < c.toNat % 128) := by rw [Bool.eq_iff_iff]; simp only [decide_eq_true_eq]; omega
      have hgt0 : decide ((0 : Int) < i) = decide (0 < i) := by rw [Bool.eq_iff_iff]; simp
      have hbeq0 : (((c.toNat % 128 : Nat) : Int) == 0) = decide (c.toNat % 128 = 0) := by rw [Bool.eq_iff_iff]; simp only [decide_eq_true_eq, beq_iff_eq]; omega
      have h128 : decide ((128 : Int) ≤ c.toNat) = decide (128 ≤ c.toNat) := by rw [Bool.eq_iff_iff]; simp only [decide_eq_true_eq]; omega
      have hwd := wrapUN (n := c.toNat % 128) (by omega)
      have hin := wrap_succ (i := i) (by omega)
      have h7 := wrap_mul7 (i := i) (by omega)
      have h7u := wrapUN (n := 7 * i) (by omega)
      simp only [getN] at hg
      by_cases hbad : i = 9 ∧ 1 < c.toNat % 128
      · rw [if_pos (.inl ⟨hbad.1, by omega⟩)] at hg
        rw [getV_none hg]
        simp -implicitDefEqProofs only [mkE, List.foldl_cons, List.foldl_nil, go_sem, List.reduceReplicate, Nat.reduceAdd, Nat.reduceSub, Nat.reduceLT, Nat.reduceLeDiff, Nat.reduceMul, Nat.reduceEqDiff, reduceCtorEq, Int.reduceLE, Int.reduceLT, Int.reduceEq, Int.reduceNe, Int.reduceBEq, Int.reduceBNe, Int.reduceAdd, Int.reduceSub, byv_len, nat_lt hlt, dec_lt hlt, h10, hx, bc, tmod128, hwd, hbeq9, hgt1, decide_eq_true hbad.1, decide_eq_true hbad.2]
        exact Fini.ret rfl
      · have go : ∀ (P : Prop), (decide (i = 9) = true → decide (1 < c.toNat % 128) = false → P) → (decide (i = 9) = false → P) → P := fun P p q => by
          by_cases h3 : i = 9
          · exact p (decide_eq_true h3) (decide_eq_false (by omega))
          · exact q (decide_eq_false h3)
        have hor := orD_eq a (c.toNat % 128) (7 * i) ha (by omega) (shl_bound i c.toNat (by omega))
        by_cases hend : c.toNat < 128
        · have e128 : decide (128 ≤ c.toNat) = false := decide_eq_false (by omega)
          have hmod : c.toNat % 128 = c.toNat := Nat.mod_eq_of_lt hend
          by_cases hz : c.toNat % 128 = 0 ∧ 0 < i
          · rw [if_pos (.inr ⟨hz.2, by omega⟩)] at hg
            rw [getV_none hg]
            refine go _ (fun x1 x2 => ?_) fun x1 => ?_
            · simp -implicitDefEqProofs only [mkE, List.foldl_cons, List.foldl_nil, go_sem, List.reduceReplicate, Nat.reduceAdd, Nat.reduceSub, Nat.reduceLT, Nat.reduceLeDiff, Nat.reduceMul, Nat.reduceEqDiff, reduceCtorEq, Int.reduceLE, Int.reduceLT, Int.reduceEq, Int.reduceNe, Int.reduceBEq, Int.reduceBNe, Int.reduceAdd, Int.reduceSub, byv_len, nat_lt hlt, dec_lt hlt, h10, hx, bc, tmod128, hwd, hbeq9, hgt1, hgt0, hbeq0, x1, x2, h7, h7u, h128, e128, decide_eq_true hz.1, decide_eq_true hz.2]
              exact Fini.ret rfl
            · simp -implicitDefEqProofs only [mkE, List.foldl_cons, List.foldl_nil, go_sem, List.reduceReplicate, Nat.reduceAdd, Nat.reduceSub, Nat.reduceLT, Nat.reduceLeDiff, Nat.reduceMul, Nat.reduceEqDiff, reduceCtorEq, Int.reduceLE, Int.reduceLT, Int.reduceEq, Int.reduceNe, Int.reduceBEq, Int.reduceBNe, Int.reduceAdd, Int.reduceSub, byv_len, nat_lt hlt, dec_lt hlt, h10, hx, bc, tmod128, hwd, hbeq9, hgt1, hgt0, hbeq0, x1, h7, h7u, h128, e128, decide_eq_true hz.1, decide_eq_true hz.2]
              exact Fini.ret rfl
          · rw [if_neg (by omega), if_pos hend] at hg
            simp only [Option.map_some] at hg
            rw [getV_some hg]
            have hfin : ∀ v : Int, v = ((a + 2 ^ (7 * i) * (c.toNat % 128) : Nat) : Int) → (.tup [.pl (.int .u64 v), I ((i + 1 : Nat) : Int), Bo true] : AV) = .tup [UN (a + 2 ^ (7 * i) * c.toNat), I (b.length - (b.drop (i + 1)).length : Nat), Bo true] := by
              rintro _ rfl
              rw [hmod, List.length_drop, show b.length - (b.length - (i + 1)) = i + 1 by omega]
            have go2 : ∀ (P : Prop), (decide (c.toNat % 128 = 0) = true → decide (0 < i) = false → P) → (decide (c.toNat % 128 = 0) = false → P) → P := fun P p q => by
              by_cases h3 : c.toNat % 128 = 0
              · exact p (decide_eq_true h3) (decide_eq_false (by omega))
              · exact q (decide_eq_false h3)
            refine go _ (fun x1 x2 => go2 _ (fun y1 y2 => ?_) fun y1 => ?_) fun x1 => go2 _ (fun y1 y2 => ?_) fun y1 => ?_
            · simp -implicitDefEqProofs only [mkE, List.foldl_cons, List.foldl_nil, go_sem, List.reduceReplicate, Nat.reduceAdd, Nat.reduceSub, Nat.reduceLT, Nat.reduceLeDiff, Nat.reduceMul, Nat.reduceEqDiff, reduceCtorEq, Int.reduceLE, Int.reduceLT, Int.reduceEq, Int.reduceNe, Int.reduceBEq, Int.reduceBNe, Int.reduceAdd, Int.reduceSub, byv_len, nat_lt hlt, dec_lt hlt, h10, hx, bc, tmod128, hwd, hbeq9, hgt1, hgt0, hbeq0, x1, x2, y1, y2, h7, h7u, h128, e128, hin]
              exact Fini.ret' rfl (hfin _ hor)
            · simp -implicitDefEqProofs only [mkE, List.foldl_cons, List.foldl_nil, go_sem, List.reduceReplicate, Nat.reduceAdd, Nat.reduceSub, Nat.reduceLT, Nat.reduceLeDiff, Nat.reduceMul, Nat.reduceEqDiff, reduceCtorEq, Int.reduceLE, Int.reduceLT, Int.reduceEq, Int.reduceNe, Int.reduceBEq, Int.reduceBNe, Int.reduceAdd, Int.reduceSub, byv_len, nat_lt hlt, dec_lt hlt, h10, hx, bc, tmod128, hwd, hbeq9, hgt1, hgt0, hbeq0, x1, x2, y1, h7, h7u, h128, e128, hin]
              exact Fini.ret' rfl (hfin _ hor)
            · simp -implicitDefEqProofs only [mkE, List.foldl_cons, List.foldl_nil, go_sem, List.reduceReplicate, Nat.reduceAdd, Nat.reduceSub, Nat.reduceLT, Nat.reduceLeDiff, Nat.reduceMul, Nat.reduceEqDiff, reduceCtorEq, Int.reduceLE, Int.reduceLT, Int.reduceEq, Int.reduceNe, Int.reduceBEq, Int.reduceBNe, Int.reduceAdd, Int.reduceSub, byv_len, nat_lt hlt, dec_lt hlt, h10, hx, bc, tmod128, hwd, hbeq9, hgt1, hgt0, hbeq0, x1, y1, y2, h7, h7u, h128, e128, hin]
              exact Fini.ret' rfl (hfin _ hor)
            · simp -implicitDefEqProofs only [mkE, List.foldl_cons, List.foldl_nil, go_sem, List.reduceReplicate, Nat.reduceAdd, Nat.reduceSub, Nat.reduceLT, Nat.reduceLeDiff, Nat.reduceMul, Nat.reduceEqDiff, reduceCtorEq, Int.reduceLE, Int.reduceLT, Int.reduceEq, Int.reduceNe, Int.reduceBEq, Int.reduceBNe, Int.reduceAdd, Int.reduceSub, byv_len, nat_lt hlt, dec_lt hlt, h10, hx, bc, tmod128, hwd, hbeq9, hgt1, hgt0, hbeq0, x1, y1, h7, h7u, h128, e128, hin]
              exact Fini.ret' rfl (hfin _ hor)
        · have e128 : decide (128 ≤ c.toNat) = true := decide_eq_true (by omega)
          have hgo := hJ ⟨(i + 1, a + 2 ^ (7 * i) * (c.toNat % 128)), by simp only; omega, (by
            simp only
            rcases Nat.lt_or_eq_of_le h9 with hi9 | hi9
            · refine .inl ⟨by omega, ?_, ?_⟩
              · have e1 : 2 ^ (7 * (i + 1)) = 2 ^ (7 * i) * 128 := by rw [Nat.mul_add, Nat.pow_add]
                have : c.toNat % 128 < 128 := Nat.mod_lt _ (by decide)
                have : 2 ^ (7 * i) * (c.toNat % 128 + 1) ≤ 2 ^ (7 * i) * 128 := Nat.mul_le_mul_left _ this
                rw [Nat.mul_add, Nat.mul_one] at this
                omega
              · rw [if_neg (by omega), if_neg hend] at hg
                rw [hg]
                have hm : c.toNat % 128 = c.toNat - 128 := by omega
                cases getN (i + 1) (b.drop (i + 1)) with
                | none => rfl
                | some q =>
                  simp only [Option.map_some, Option.some.injEq, Prod.mk.injEq, and_true]
                  rw [hm, show 7 * (i + 1) = 7 * i + 7 by omega, Nat.pow_add, Nat.mul_add, Nat.add_assoc, ← Nat.mul_assoc]
            · refine .inr ⟨by omega, ?_⟩
              rw [if_pos (.inl ⟨hi9, by omega⟩)] at hg
              exact hg)⟩ (by simp only; omega)
          have key : ∀ v : Int, v = ((a + 2 ^ (7 * i) * (c.toNat % 128) : Nat) : Int) → J (mkE 51 [(0, .sl 1 (byv b)), (5, .pl (.int .u64 v)), (6, I ((i + 1 : Nat) : Int))]) σ := by
            rintro _ rfl
            exact hgo
          refine go _ (fun x1 x2 => ?_) fun x1 => ?_
          · simp -implicitDefEqProofs only [mkE, List.foldl_cons, List.foldl_nil, go_sem, List.reduceReplicate, Nat.reduceAdd, Nat.reduceSub, Nat.reduceLT, Nat.reduceLeDiff, Nat.reduceMul, Nat.reduceEqDiff, reduceCtorEq, Int.reduceLE, Int.reduceLT, Int.reduceEq, Int.reduceNe, Int.reduceBEq, Int.reduceBNe, Int.reduceAdd, Int.reduceSub, byv_len, nat_lt hlt, dec_lt hlt, h10, hx, bc, tmod128, hwd, hbeq9, hgt1, x1, x2, h7, h7u, h128, e128, hin]
            exact key _ hor
          · simp -implicitDefEqProofs only [mkE, List.foldl_cons, List.foldl_nil, go_sem, List.reduceReplicate, Nat.reduceAdd, Nat.reduceSub, Nat.reduceLT, Nat.reduceLeDiff, Nat.reduceMul, Nat.reduceEqDiff, reduceCtorEq, Int.reduceLE, Int.reduceLT, Int.reduceEq, Int.reduceNe, Int.reduceBEq, Int.reduceBNe, Int.reduceAdd, Int.reduceSub, byv_len, nat_lt hlt, dec_lt hlt, h10, hx, bc, tmod128, hwd, hbeq9, hgt1, x1, h7, h7u, h128, e128, hin]
            exact key _ hor
    · have hn : b.drop i = [] := List.drop_eq_nil_of_le (by omega)
      rw [hn] at hg
      simp only [getN, Option.map_none] at hg
      rw [getV_none hg]
      simp -implicitDefEqProofs only [mkE, List.foldl_cons, List.foldl_nil, go_sem, List.reduceReplicate, Nat.reduceAdd, Nat.reduceSub, Nat.reduceLT, Nat.reduceLeDiff, Nat.reduceMul, Nat.reduceEqDiff, reduceCtorEq, Int.reduceLE, Int.reduceLT, Int.reduceEq, Int.reduceNe, Int.reduceBEq, Int.reduceBNe, Int.reduceAdd, Int.reduceSub, byv_len, nat_nlt hlt, dec_nlt hlt]
      exact Fini.ret rfl
  · subst h10
    have h10 : decide (((10 : Nat) : Int) < 10) = false := by simp
    rw [getV_none hg]
    by_cases hlt : 10 < b.length
    · simp -implicitDefEqProofs only [mkE, List.foldl_cons, List.foldl_nil, go_sem, List.reduceReplicate, Nat.reduceAdd, Nat.reduceSub, Nat.reduceLT, Nat.reduceLeDiff, Nat.reduceMul, Nat.reduceEqDiff, reduceCtorEq, Int.reduceLE, Int.reduceLT, Int.reduceEq, Int.reduceNe, Int.reduceBEq, Int.reduceBNe, Int.reduceAdd, Int.reduceSub, byv_len, dec_lt hlt, h10]
      exact Fini.ret rfl
    · simp -implicitDefEqProofs only [mkE, List.foldl_cons, List.foldl_nil, go_sem, List.reduceReplicate, Nat.reduceAdd, Nat.reduceSub, Nat.reduceLT, Nat.reduceLeDiff, Nat.reduceMul, Nat.reduceEqDiff, reduceCtorEq, Int.reduceLE, Int.reduceLT, Int.reduceEq, Int.reduceNe, Int.reduceBEq, Int.reduceBNe, Int.reduceAdd, Int.reduceSub, byv_len, dec_nlt hlt]
      exact Fini.ret rfl
theorem dgettext_ans (b : Byt) (most : Nat) (hb : b.length ≤ 100000) (hm : most < 9223372036854775808) : Ans Try.prog 83 [.sl 1 (byv b), I most] σ (textV most b) σ := by
  refine Ans.of_run t83 ?_
  simp -implicitDefEqProofs only [c83, r83, go_sem, List.reduceReplicate, Nat.reduceAdd, Nat.reduceSub, Nat.reduceLT, Nat.reduceLeDiff, Nat.reduceMul, Nat.reduceEqDiff, reduceCtorEq, Int.reduceLE, Int.reduceLT, Int.reduceEq, Int.reduceNe, Int.reduceBEq, Int.reduceBNe, Int.reduceAdd, Int.reduceSub]
  refine CO.intro (dget_ans σ b hb) ?_
  have hneg : decide ((most : Int) < 0) = false := by simp
  have hwm := wrapUN (n := most) (by omega)
  cases hg : getN 0 b with
  | none =>
    rw [getV_none hg, textV_none (textR_none hg)]
    simp -implicitDefEqProofs only [go_sem, List.reduceReplicate, Nat.reduceAdd, Nat.reduceSub, Nat.reduceLT, Nat.reduceLeDiff, Nat.reduceMul, Nat.reduceEqDiff, reduceCtorEq, Int.reduceLE, Int.reduceLT, Int.reduceEq, Int.reduceNe, Int.reduceBEq, Int.reduceBNe, Int.reduceAdd, Int.reduceSub]
    exact Fini.ret rfl
  | some p =>
    obtain ⟨n, t⟩ := p
    obtain ⟨hbt, hn, _⟩ := getN_inv b 0 n t (by omega) hg
    have hn : n < 18446744073709551616 := hn
    have hlen : b.length = (putN n).length + t.length := by rw [hbt, List.length_append]
    have hk : b.length - t.length = (putN n).length := by omega
    have hsub := subN (a := b.length) (b := (putN n).length) (by omega) hb
    have hsub2 : b.length - (putN n).length = t.length := by omega
    have hwt := wrapUN (n := t.length) (by omega)
    have e1 : decide ((most : Int) < n) = decide (most < n) := decNN most n
    have e2 : decide ((t.length : Int) < n) = decide (t.length < n) := decNN _ n
    rw [getV_some hg, hk]
    have hR := textR_of (most := most) hg
    by_cases h2 : n ≤ t.length
    · have x2 : decide (t.length < n) = false := decide_eq_false (by omega)
      by_cases h1 : n ≤ most
      · have x1 : decide (most < n) = false := decide_eq_false (by omega)
        rw [if_pos ⟨h1, h2⟩] at hR
        have hwn := wrapI (a := n) (by omega)
        have hadd := addN (a := (putN n).length) (b := n) (by omega)
        have hlo : ((putN n).length : Int) ≤ ((putN n).length + n : Nat) := by omega
        have hhi : (((putN n).length + n : Nat) : Int) ≤ (b.length : Nat) := by omega
        have hcut : (b.take ((putN n).length + n)).drop (putN n).length = t.take n := by
          rw [hbt, List.take_append, List.take_of_length_le (by omega), Nat.add_sub_cancel_left, List.drop_left]
        rw [textV_some hR]
        simp -implicitDefEqProofs only [go_sem, List.reduceReplicate, Nat.reduceAdd, Nat.reduceSub, Nat.reduceLT, Nat.reduceLeDiff, Nat.reduceMul, Nat.reduceEqDiff, reduceCtorEq, Int.reduceLE, Int.reduceLT, Int.reduceEq, Int.reduceNe, Int.reduceBEq, Int.reduceBNe, Int.reduceAdd, Int.reduceSub, hneg, hwm, e1, x1, hsub, hsub2, hwt, e2, x2, hwn, hadd, byv_len, hlo, hhi, AV.isStr, byv_take, byv_drop, hcut, byv_all', bc, byteL_byv, textOf_byv]
        refine Fini.ret' rfl ?_
        rw [List.length_drop]
        have : b.length - (t.length - n) = (putN n).length + n := by omega
        rw [this]; rfl
      · have x1 : decide (most < n) = true := decide_eq_true (by omega)
        rw [if_neg (by omega)] at hR
        rw [textV_none hR]
        simp -implicitDefEqProofs only [go_sem, List.reduceReplicate, Nat.reduceAdd, Nat.reduceSub, Nat.reduceLT, Nat.reduceLeDiff, Nat.reduceMul, Nat.reduceEqDiff, reduceCtorEq, Int.reduceLE, Int.reduceLT, Int.reduceEq, Int.reduceNe, Int.reduceBEq, Int.reduceBNe, Int.reduceAdd, Int.reduceSub, hneg, hwm, e1, x1, byv_len, hsub, hsub2, hwt, e2, x2]
        exact Fini.ret rfl
    · have x2 : decide (t.length < n) = true := decide_eq_true (by omega)
      rw [if_neg (by omega)] at hR
      rw [textV_none hR]
      simp -implicitDefEqProofs only [go_sem, List.reduceReplicate, Nat.reduceAdd, Nat.reduceSub, Nat.reduceLT, Nat.reduceLeDiff, Nat.reduceMul, Nat.reduceEqDiff, reduceCtorEq, Int.reduceLE, Int.reduceLT, Int.reduceEq, Int.reduceNe, Int.reduceBEq, Int.reduceBNe, Int.reduceAdd, Int.reduceSub, hneg, hwm, byv_len, hsub, hsub2, hwt, e2, x2]
      exact Fini.ret rfl
end
end Go.Proofs.Ytoadgajhkhejiaa
namespace Go.Proofs.Ytoadgajhkhejiaa
open Go Go.Ab Go.Cod
set_option maxRecDepth 100000
theorem txtB_len (s : ByteArray) (h : s.size ≤ 1000000) : (txtB s).length ≤ 10 + s.size := by
  have h10 := putN_len10 (n := s.size) (by omega)
  rw [txtB, List.length_append, size_list]
  omega
theorem listB_at {M : List Mtr} (h : listB M = true) : M.length ≤ 5 ∧ ∀ x ∈ M, (1 ≤ x.1 ∧ x.1 ≤ 4) ∧ x.2.1.size ≤ 12 ∧ x.2.2.size ≤ 40 := by
  unfold listB at h
  simp only [Bool.and_eq_true, decide_eq_true_eq] at h
  refine ⟨h.1, fun x hx => ?_⟩
  obtain ⟨i, hi, rfl⟩ := List.getElem_of_mem hx
  have h2 := List.all_eq_true.1 h.2 i (List.mem_range.2 hi)
  unfold okL isM at h2
  simp only [Bool.and_eq_true] at h2
  have e : M.getD i noM3 = M[i] := by rw [List.getD_eq_getElem?_getD, List.getElem?_eq_getElem hi]; rfl
  rw [e] at h2
  exact isB_kind h2.1
def preL (M : List Mtr) (i : Nat) : Byt := putN M.length ++ laidMany putM (M.take i)
theorem preL_succ (M : List Mtr) (i : Nat) (h : i < M.length) : preL M (i + 1) = preL M i ++ putM M[i] := by
  unfold preL laidMany
  rw [List.take_succ_eq_append_getElem h, List.flatMap_append, List.append_assoc]
  simp
theorem preL_all (M : List Mtr) : preL M M.length = putL M := by unfold preL putL laidRow; rw [List.take_length]
theorem preL_len {M : List Mtr} (h : listB M = true) : ∀ i, i ≤ M.length → (preL M i).length ≤ 10 + 100 * i
  | 0, _ => by
    have := (listB_at h).1
    unfold preL laidMany
    simp only [List.take_zero, List.flatMap_nil, List.append_nil]
    have := putN_len10 (n := M.length) (by omega)
    omega
  | i + 1, hi => by
    have ih := preL_len h i (by omega)
    have hx := (listB_at h).2 M[i] (List.getElem_mem (by omega))
    have h1 := txtB_len (M[i]).2.1 (by omega)
    have h2 := txtB_len (M[i]).2.2 (by omega)
    rw [preL_succ M i (by omega), List.length_append]
    unfold putM
    simp only [List.length_cons, List.length_append]
    omega
def bytesL (M : List Mtr) : Byt := if listB M then putL M else []
theorem kind_bc {k : Int} (h : 1 ≤ k ∧ k ≤ 4) : IntKind.u8.wrap k = ((k.toNat.toUInt8.toNat : Nat) : Int) := by
  obtain ⟨n, rfl⟩ := Int.eq_ofNat_of_zero_le (show 0 ≤ k by omega)
  have : n < 256 := by omega
  rw [wrap8N, Nat.mod_eq_of_lt this, Int.toNat_natCast, toNat_toUInt8 this]
section
variable (σ : St)
theorem mbytes_ans (M : List Mtr) : Ans Try.prog 43 [.sl 3 (mvs3 M)] σ (.sl 1 (byv (bytesL M))) σ := by
  unfold bytesL
  cases hL : listB M with
  | false =>
    have : Ans Try.prog 43 [.sl 3 (mvs3 M)] σ .nils σ := by
      refine Ans.of_run t43 ?_
      simp -implicitDefEqProofs only [c43, r43, go_sem, List.reduceReplicate, Nat.reduceAdd, Nat.reduceSub, Nat.reduceLT, Nat.reduceLeDiff, Nat.reduceMul, Nat.reduceEqDiff, reduceCtorEq, Int.reduceLE, Int.reduceLT, Int.reduceEq, Int.reduceNe, Int.reduceBEq, Int.reduceBNe, Int.reduceAdd, Int.reduceSub]
      refine CO.intro (list_any σ M) ?_
      rw [hL]
      simp -implicitDefEqProofs only [go_sem, List.reduceReplicate, Nat.reduceAdd, Nat.reduceSub, Nat.reduceLT, Nat.reduceLeDiff, Nat.reduceMul, Nat.reduceEqDiff, reduceCtorEq, Int.reduceLE, Int.reduceLT, Int.reduceEq, Int.reduceNe, Int.reduceBEq, Int.reduceBNe, Int.reduceAdd, Int.reduceSub]
      exact Fini.ret rfl
    exact this.subR (.nils 1)
  | true =>
    obtain ⟨h5, hM⟩ := listB_at hL
    have hpl := preL_len hL
    have hw := wrapUN (n := M.length) (by omega)
    have e00 : preL M 0 = putN M.length := by simp [preL, laidMany]
    refine Ans.of_run' t43 (fun hbel _ => ?_)
    simp -implicitDefEqProofs only [c43, r43, go_sem, List.reduceReplicate, Nat.reduceAdd, Nat.reduceSub, Nat.reduceLT, Nat.reduceLeDiff, Nat.reduceMul, Nat.reduceEqDiff, reduceCtorEq, Int.reduceLE, Int.reduceLT, Int.reduceEq, Int.reduceNe, Int.reduceBEq, Int.reduceBNe, Int.reduceAdd, Int.reduceSub]
    refine CO.intro (list_any σ M) ?_
    rw [hL]
    simp -implicitDefEqProofs only [go_sem, List.reduceReplicate, Nat.reduceAdd, Nat.reduceSub, Nat.reduceLT, Nat.reduceLeDiff, Nat.reduceMul, Nat.reduceEqDiff, reduceCtorEq, Int.reduceLE, Int.reduceLT, Int.reduceEq, Int.reduceNe, Int.reduceBEq, Int.reduceBNe, Int.reduceAdd, Int.reduceSub, mvs3_len, hw]
    refine CO.intro (put_ans σ M.length (by omega)) ?_
    simp -implicitDefEqProofs only [go_sem, List.reduceReplicate, Nat.reduceAdd, Nat.reduceSub, Nat.reduceLT, Nat.reduceLeDiff, Nat.reduceMul, Nat.reduceEqDiff, reduceCtorEq, Int.reduceLE, Int.reduceLT, Int.reduceEq, Int.reduceNe, Int.reduceBEq, Int.reduceBNe, Int.reduceAdd, Int.reduceSub, mvs3_len]
    refine Go.Ab.L.count M.length (fun i => mkE 37 [(3, .osl σ.length (preL M i).length), (13, .sl 3 (mvs3 M)), (14, I M.length), (15, I i)]) (fun i => σ ++ [.row 1 (byv (preL M i))]) ?_ ?_ (by rw [e00]; rfl) (by rw [e00])
    · intro i hi J hJ
      have hx := mvs3_get M i hi
      have hxm := hM M[i] (List.getElem_mem hi)
      have hp := hpl (i + 1) (by omega)
      rw [preL_succ M i hi] at hJ hp
      generalize M[i] = x at hx hxm hJ hp
      obtain ⟨k, nm, v⟩ := x
      simp only at hxm
      generalize preL M i = pre at hJ hp ⊢
      have hkb := kind_bc hxm.1
      have hin := wrap_succ (i := i) (by omega)
      have h1 := txtB_len nm (by omega)
      have h2 := txtB_len v (by omega)
      unfold putM at hJ hp
      simp only [List.length_append, List.length_cons] at hp
      have l1 : pre.length + 1 ≤ 4294967296 := by omega
      have l2 : pre.length + 1 + (txtB nm).length ≤ 4294967296 := by omega
      have l3 : pre.length + 1 + (txtB nm).length + (txtB v).length ≤ 4294967296 := by omega
      simp -implicitDefEqProofs only [mkE, List.foldl_cons, List.foldl_nil, go_sem, List.reduceReplicate, Nat.reduceAdd, Nat.reduceSub, Nat.reduceLT, Nat.reduceLeDiff, Nat.reduceMul, Nat.reduceEqDiff, reduceCtorEq, Int.reduceLE, Int.reduceLT, Int.reduceEq, Int.reduceNe, Int.reduceBEq, Int.reduceBNe, Int.reduceAdd, Int.reduceSub, mvs3_len, nat_lt hi, dec_lt hi, hx, mv3, hkb, g0, s0, byv_len, l1, List.length_singleton]
      refine CO.intro (puttext_ans _ nm (by omega)) ?_
      simp -implicitDefEqProofs only [go_sem, List.reduceReplicate, Nat.reduceAdd, Nat.reduceSub, Nat.reduceLT, Nat.reduceLeDiff, Nat.reduceMul, Nat.reduceEqDiff, reduceCtorEq, Int.reduceLE, Int.reduceLT, Int.reduceEq, Int.reduceNe, Int.reduceBEq, Int.reduceBNe, Int.reduceAdd, Int.reduceSub, g0, s0, byv_len, byv_all', bc, l1, l2, List.length_append, List.length_singleton]
      refine CO.intro (puttext_ans _ v (by omega)) ?_
      simp -implicitDefEqProofs only [go_sem, List.reduceReplicate, Nat.reduceAdd, Nat.reduceSub, Nat.reduceLT, Nat.reduceLeDiff, Nat.reduceMul, Nat.reduceEqDiff, reduceCtorEq, Int.reduceLE, Int.reduceLT, Int.reduceEq, Int.reduceNe, Int.reduceBEq, Int.reduceBNe, Int.reduceAdd, Int.reduceSub, g0, s0, byv_len, byv_all', bc, l1, l2, l3, List.length_append, List.length_singleton, hin]
      have e : pre ++ k.toNat.toUInt8 :: (txtB nm ++ txtB v) = pre ++ [k.toNat.toUInt8] ++ txtB nm ++ txtB v := by simp
      simp only at hJ
      rw [e] at hJ
      simp only [byv_append, List.length_append, List.length_singleton] at hJ
      exact hJ
    · intro J
      have d0 : decide ((M.length : Int) < M.length) = false := by simp
      simp -implicitDefEqProofs only [mkE, List.foldl_cons, List.foldl_nil, go_sem, List.reduceReplicate, Nat.reduceAdd, Nat.reduceSub, Nat.reduceLT, Nat.reduceLeDiff, Nat.reduceMul, Nat.reduceEqDiff, reduceCtorEq, Int.reduceLE, Int.reduceLT, Int.reduceEq, Int.reduceNe, Int.reduceBEq, Int.reduceBNe, Int.reduceAdd, Int.reduceSub, d0, g0, s0, byv_len]
      exact Fini.trim2 (σ' := σ) (by rw [preL_all]; rfl) rfl (Nat.le_refl _) (by first | exact bel_byv _ _ | (rw [preL_all]; exact bel_byv _ _)) hbel
theorem dbytes_ans (M : List Mtr) (hs : ∀ x ∈ M, x.2.1.size ≤ 100000) : Ans Try.prog 44 [.sl 3 (mvs3 M)] σ (.sl 1 (byv (bytesL M))) σ := by
  unfold bytesL
  cases hL : listB M with
  | false =>
    have : Ans Try.prog 44 [.sl 3 (mvs3 M)] σ .nils σ := by
      refine Ans.of_run t44 ?_
      simp -implicitDefEqProofs only [c44, r44, go_sem, List.reduceReplicate, Nat.reduceAdd, Nat.reduceSub, Nat.reduceLT, Nat.reduceLeDiff, Nat.reduceMul, Nat.reduceEqDiff, reduceCtorEq, Int.reduceLE, Int.reduceLT, Int.reduceEq, Int.reduceNe, Int.reduceBEq, Int.reduceBNe, Int.reduceAdd, Int.reduceSub]
      refine CO.intro (dlist_ans σ M hs) ?_
      rw [hL]
      simp -implicitDefEqProofs only [go_sem, List.reduceReplicate, Nat.reduceAdd, Nat.reduceSub, Nat.reduceLT, Nat.reduceLeDiff, Nat.reduceMul, Nat.reduceEqDiff, reduceCtorEq, Int.reduceLE, Int.reduceLT, Int.reduceEq, Int.reduceNe, Int.reduceBEq, Int.reduceBNe, Int.reduceAdd, Int.reduceSub]
      exact Fini.ret rfl
    exact this.subR (.nils 1)
  | true =>
    obtain ⟨h5, hM⟩ := listB_at hL
    have hpl := preL_len hL
    have hw := wrapUN (n := M.length) (by omega)
    have e00 : preL M 0 = putN M.length := by simp [preL, laidMany]
    refine Ans.of_run' t44 (fun hbel _ => ?_)
    simp -implicitDefEqProofs only [c44, r44, go_sem, List.reduceReplicate, Nat.reduceAdd, Nat.reduceSub, Nat.reduceLT, Nat.reduceLeDiff, Nat.reduceMul, Nat.reduceEqDiff, reduceCtorEq, Int.reduceLE, Int.reduceLT, Int.reduceEq, Int.reduceNe, Int.reduceBEq, Int.reduceBNe, Int.reduceAdd, Int.reduceSub]
    refine CO.intro (dlist_ans σ M hs) ?_
    rw [hL]
    simp -implicitDefEqProofs only [go_sem, List.reduceReplicate, Nat.reduceAdd, Nat.reduceSub, Nat.reduceLT, Nat.reduceLeDiff, Nat.reduceMul, Nat.reduceEqDiff, reduceCtorEq, Int.reduceLE, Int.reduceLT, Int.reduceEq, Int.reduceNe, Int.reduceBEq, Int.reduceBNe, Int.reduceAdd, Int.reduceSub, mvs3_len, hw]
    refine CO.intro (dput_ans σ M.length (by omega)) ?_
    simp -implicitDefEqProofs only [go_sem, List.reduceReplicate, Nat.reduceAdd, Nat.reduceSub, Nat.reduceLT, Nat.reduceLeDiff, Nat.reduceMul, Nat.reduceEqDiff, reduceCtorEq, Int.reduceLE, Int.reduceLT, Int.reduceEq, Int.reduceNe, Int.reduceBEq, Int.reduceBNe, Int.reduceAdd, Int.reduceSub, mvs3_len]
    refine Go.Ab.L.count M.length (fun i => mkE 43 [(0, .sl 3 (mvs3 M)), (3, .osl σ.length (preL M i).length), (4, I i)]) (fun i => σ ++ [.row 1 (byv (preL M i))]) ?_ ?_ (by rw [e00]; rfl) (by rw [e00])
    · intro i hi J hJ
      have hx := mvs3_get M i hi
      have hxm := hM M[i] (List.getElem_mem hi)
      have hp := hpl (i + 1) (by omega)
      rw [preL_succ M i hi] at hJ hp
      generalize M[i] = x at hx hxm hJ hp
      obtain ⟨k, nm, v⟩ := x
      simp only at hxm
      generalize preL M i = pre at hJ hp ⊢
      have hkb := kind_bc hxm.1
      have hin := wrap_succ (i := i) (by omega)
      have h1 := txtB_len nm (by omega)
      have h2 := txtB_len v (by omega)
      unfold putM at hJ hp
      simp only [List.length_append, List.length_cons] at hp
      have l1 : pre.length + 1 ≤ 4294967296 := by omega
      have l2 : pre.length + 1 + (txtB nm).length ≤ 4294967296 := by omega
      have l3 : pre.length + 1 + (txtB nm).length + (txtB v).length ≤ 4294967296 := by omega
      simp -implicitDefEqProofs only [mkE, List.foldl_cons, List.foldl_nil, go_sem, List.reduceReplicate, Nat.reduceAdd, Nat.reduceSub, Nat.reduceLT, Nat.reduceLeDiff, Nat.reduceMul, Nat.reduceEqDiff, reduceCtorEq, Int.reduceLE, Int.reduceLT, Int.reduceEq, Int.reduceNe, Int.reduceBEq, Int.reduceBNe, Int.reduceAdd, Int.reduceSub, mvs3_len, nat_lt hi, dec_lt hi, hx, mv3, hkb, g0, s0, byv_len, l1, List.length_singleton]
      refine CD.intro (dputtext_ans _ nm (by omega)) ?_
      simp -implicitDefEqProofs only [go_sem, List.reduceReplicate, Nat.reduceAdd, Nat.reduceSub, Nat.reduceLT, Nat.reduceLeDiff, Nat.reduceMul, Nat.reduceEqDiff, reduceCtorEq, Int.reduceLE, Int.reduceLT, Int.reduceEq, Int.reduceNe, Int.reduceBEq, Int.reduceBNe, Int.reduceAdd, Int.reduceSub, mvs3_len, nat_lt hi, hx, mv3, g0, s0, byv_len, byv_all', bc, l1, l2, List.length_append, List.length_singleton]
      refine CD.intro (dputtext_ans _ v (by omega)) ?_
      simp -implicitDefEqProofs only [go_sem, List.reduceReplicate, Nat.reduceAdd, Nat.reduceSub, Nat.reduceLT, Nat.reduceLeDiff, Nat.reduceMul, Nat.reduceEqDiff, reduceCtorEq, Int.reduceLE, Int.reduceLT, Int.reduceEq, Int.reduceNe, Int.reduceBEq, Int.reduceBNe, Int.reduceAdd, Int.reduceSub, g0, s0, byv_len, byv_all', bc, l1, l2, l3, List.length_append, List.length_singleton, hin]
      have e : pre ++ k.toNat.toUInt8 :: (txtB nm ++ txtB v) = pre ++ [k.toNat.toUInt8] ++ txtB nm ++ txtB v := by simp
      simp only at hJ
      rw [e] at hJ
      simp only [byv_append, List.length_append, List.length_singleton] at hJ
      exact hJ
    · intro J
      have d0 : decide ((M.length : Int) < M.length) = false := by simp
      simp -implicitDefEqProofs only [mkE, List.foldl_cons, List.foldl_nil, go_sem, List.reduceReplicate, Nat.reduceAdd, Nat.reduceSub, Nat.reduceLT, Nat.reduceLeDiff, Nat.reduceMul, Nat.reduceEqDiff, reduceCtorEq, Int.reduceLE, Int.reduceLT, Int.reduceEq, Int.reduceNe, Int.reduceBEq, Int.reduceBNe, Int.reduceAdd, Int.reduceSub, d0, mvs3_len, g0, s0, byv_len]
      exact Fini.trim2 (σ' := σ) (by rw [preL_all]; rfl) rfl (Nat.le_refl _) (by first | exact bel_byv _ _ | (rw [preL_all]; exact bel_byv _ _)) hbel
end
end Go.Proofs.Ytoadgajhkhejiaa
namespace Go.Proofs.Ytoadgajhkhejiaa
open Go Go.Ab Go.Cod
set_option maxRecDepth 100000
theorem mtrR_nil : mtrR [] = none := rfl
theorem mtrR_cons (c : UInt8) (u : Byt) : mtrR (c :: u) = (textR 12 u).bind fun p => (textR 40 p.2).map fun q => (mkM (c, p.1, q.1), q.2) := by
  simp only [mtrR, dressR, seqR, byteR, Option.bind_some]
  cases textR 12 u with
  | none => rfl
  | some p =>
    simp only [Option.bind_some]
    cases textR 40 p.2 with
    | none => rfl
    | some q => rfl
theorem many_succ {α : Type} (r : Rd α) (n : Nat) (b : Byt) : manyR r (n + 1) b = (r b).bind fun p => (manyR r n p.2).map fun q => (p.1 :: q.1, q.2) := rfl
theorem dread_ans0 (σ : St) (b : Byt) (hb : b.length ≤ 50000) : Ans Try.prog 42 [.sl 1 (byv b)] σ (readV (listR b) b (fun M => .sl 3 (mvs3 M)) .nils) σ := by
  refine Ans.of_run' t42 (fun hbel _ => ?_)
  simp -implicitDefEqProofs only [c42, r42, go_sem, List.reduceReplicate, Nat.reduceAdd, Nat.reduceSub, Nat.reduceLT, Nat.reduceLeDiff, Nat.reduceMul, Nat.reduceEqDiff, reduceCtorEq, Int.reduceLE, Int.reduceLT, Int.reduceEq, Int.reduceNe, Int.reduceBEq, Int.reduceBNe, Int.reduceAdd, Int.reduceSub]
  refine CO.intro (dget_ans σ b (by omega)) ?_
  cases hg : getN 0 b with
  | none =>
    have hR : listR b = none := by simp only [listR, onlyR, rowR, numR, hg, Option.bind_none]
    rw [getV_none hg, hR]
    simp -implicitDefEqProofs only [go_sem, List.reduceReplicate, Nat.reduceAdd, Nat.reduceSub, Nat.reduceLT, Nat.reduceLeDiff, Nat.reduceMul, Nat.reduceEqDiff, reduceCtorEq, Int.reduceLE, Int.reduceLT, Int.reduceEq, Int.reduceNe, Int.reduceBEq, Int.reduceBNe, Int.reduceAdd, Int.reduceSub]
    exact Fini.ret rfl
  | some p =>
    obtain ⟨n, t⟩ := p
    rw [getV_some hg]
    have e1 : decide ((5 : Int) < n) = decide (5 < n) := decNN 5 n
    by_cases h5 : 5 < n
    · have hR : listR b = none := by simp only [listR, onlyR, rowR, numR, hg, Option.bind_some, show ¬ n ≤ 5 by omega, if_false, Option.bind_none]
      rw [hR]
      simp -implicitDefEqProofs only [go_sem, List.reduceReplicate, Nat.reduceAdd, Nat.reduceSub, Nat.reduceLT, Nat.reduceLeDiff, Nat.reduceMul, Nat.reduceEqDiff, reduceCtorEq, Int.reduceLE, Int.reduceLT, Int.reduceEq, Int.reduceNe, Int.reduceBEq, Int.reduceBNe, Int.reduceAdd, Int.reduceSub, e1, decide_eq_true h5]
      exact Fini.ret rfl
    · have hN : numR 5 b = some (n, t) := by simp only [numR, hg, Option.bind_some, show n ≤ 5 by omega, if_true]
      have hR : listR b = (manyR mtrR n t).bind fun x => if listB x.1 then some x else none := by simp only [listR, onlyR, rowR, hN, Option.bind_some]
      obtain ⟨hd0, _, hl0⟩ := (ends_num 5).drop (b := b) (a := 0) (Nat.zero_le _) hN
      have hwn := wrapI (a := n) (by omega)
      simp -implicitDefEqProofs only [go_sem, List.reduceReplicate, Nat.reduceAdd, Nat.reduceSub, Nat.reduceLT, Nat.reduceLeDiff, Nat.reduceMul, Nat.reduceEqDiff, reduceCtorEq, Int.reduceLE, Int.reduceLT, Int.reduceEq, Int.reduceNe, Int.reduceBEq, Int.reduceBNe, Int.reduceAdd, Int.reduceSub, e1, decide_eq_false h5]
      refine Go.Ab.L.intro (α := { p : Nat × List Mtr × Nat // p.1 ≤ n ∧ p.2.1.length = p.1 ∧ p.2.2 ≤ b.length ∧ (∀ x ∈ p.2.1, x.2.1.size ≤ 100000) ∧ manyR mtrR n t = (manyR mtrR (n - p.1) (b.drop p.2.2)).map fun r => (p.2.1 ++ r.1, r.2) }) (fun p => n - p.1.1)
        (fun p => mkE 84 [(0, .sl 1 (byv b)), (5, UN n), (6, I p.1.2.2), (8, .osl σ.length p.1.1), (9, I p.1.1)]) (fun p => σ ++ [.row 3 (mvs3 p.1.2.1)]) ?_ ⟨(0, [], b.length - t.length), Nat.zero_le _, rfl, Nat.sub_le _ _, by simp, by rw [hd0]; cases manyR mtrR n t <;> simp⟩ rfl rfl
      rintro ⟨⟨i, l, at_⟩, hi, hll, hat, hsz, hm⟩ J hJ
      simp only at hi hll hat hsz hm hJ
      have hlm : (mvs3 l).length = i := by rw [mvs3_len, hll]
      have hbm : ∀ k, Bel k (.sl 3 (mvs3 l)) := fun k => bel_mvs3 _ _
      -- a way out: nothing was read
      by_cases hlt : i < n
      · obtain ⟨m, hmm⟩ : ∃ m, n - i = m + 1 := ⟨n - i - 1, by omega⟩
        rw [hmm, many_succ] at hm
        have d0 : decide ((i : Int) < n) = true := dec_lt hlt
        by_cases hend : at_ < b.length
        · have hx := byv_get b at_ hend
          have hdr : b.drop at_ = b[at_] :: b.drop (at_ + 1) := List.drop_eq_getElem_cons hend
          have d1 : decide ((b.length : Int) ≤ at_) = false := by simp; omega
          have w1 := wrap_succ (i := at_) (by omega)
          have hcl := (b[at_]).toNat_lt
          rw [hdr] at hm
          generalize b[at_] = c at hx hm hcl
          have wc : IntKind.i64.wrap (c.toNat : Int) = (c.toNat : Int) := wrapI (by omega)
          have hle1 : (((at_ + 1 : Nat) : Int)) ≤ (b.length : Nat) := by omega
          simp -implicitDefEqProofs only [mkE, List.foldl_cons, List.foldl_nil, go_sem, List.reduceReplicate, Nat.reduceAdd, Nat.reduceSub, Nat.reduceLT, Nat.reduceLeDiff, Nat.reduceMul, Nat.reduceEqDiff, reduceCtorEq, Int.reduceLE, Int.reduceLT, Int.reduceEq, Int.reduceNe, Int.reduceBEq, Int.reduceBNe, Int.reduceAdd, Int.reduceSub, hwn, d0, byv_len, d1, nat_lt hend, hx, bc, wc, w1, hle1, byv_take, byv_drop, List.take_length, Int.le_refl]
          refine CO.intro (dgettext_ans _ (b.drop (at_ + 1)) 12 (by rw [List.length_drop]; omega) (by decide)) ?_
          cases ht1 : textR 12 (b.drop (at_ + 1)) with
          | none =>
            rw [mtrR_cons, ht1] at hm
            simp only [Option.bind_none, Option.map_none] at hm
            rw [hm] at hR
            simp only [Option.bind_none] at hR
            rw [textV_none ht1, hR]
            simp -implicitDefEqProofs only [go_sem, List.reduceReplicate, Nat.reduceAdd, Nat.reduceSub, Nat.reduceLT, Nat.reduceLeDiff, Nat.reduceMul, Nat.reduceEqDiff, reduceCtorEq, Int.reduceLE, Int.reduceLT, Int.reduceEq, Int.reduceNe, Int.reduceBEq, Int.reduceBNe, Int.reduceAdd, Int.reduceSub]
            exact Fini.trim2 (σ' := σ) rfl rfl (Nat.le_refl _) (by unfold readV; exact bel_tup3 .nils) hbel
          | some x1 =>
            obtain ⟨nm, u2⟩ := x1
            obtain ⟨q1, q2, q3⟩ := (ends_text 12).drop (b := b) (a := at_ + 1) (by omega) ht1
            have hs1 := ((text_fits (most := 12) (by decide)).bwd _ _ _ ht1).1
            have a1 := addN (a := at_ + 1) (b := (b.drop (at_ + 1)).length - u2.length) (by rw [List.length_drop]; omega)
            have e2 : at_ + 1 + ((b.drop (at_ + 1)).length - u2.length) = b.length - u2.length := by rw [List.length_drop]; omega
            rw [e2] at a1
            have hle2 : (((b.length - u2.length : Nat) : Int)) ≤ (b.length : Nat) := by omega
            rw [textV_some ht1]
            simp -implicitDefEqProofs only [go_sem, List.reduceReplicate, Nat.reduceAdd, Nat.reduceSub, Nat.reduceLT, Nat.reduceLeDiff, Nat.reduceMul, Nat.reduceEqDiff, reduceCtorEq, Int.reduceLE, Int.reduceLT, Int.reduceEq, Int.reduceNe, Int.reduceBEq, Int.reduceBNe, Int.reduceAdd, Int.reduceSub, a1, byv_len, hle2, byv_take, byv_drop, List.take_length, Int.le_refl, q1]
            refine CO.intro (dgettext_ans _ u2 40 (by omega) (by decide)) ?_
            rw [mtrR_cons, ht1] at hm
            simp only [Option.bind_some] at hm
            cases ht2 : textR 40 u2 with
            | none =>
              rw [ht2] at hm
              simp only [Option.bind_none, Option.map_none] at hm
              rw [hm] at hR
              simp only [Option.bind_none] at hR
              rw [textV_none ht2, hR]
              simp -implicitDefEqProofs only [go_sem, List.reduceReplicate, Nat.reduceAdd, Nat.reduceSub, Nat.reduceLT, Nat.reduceLeDiff, Nat.reduceMul, Nat.reduceEqDiff, reduceCtorEq, Int.reduceLE, Int.reduceLT, Int.reduceEq, Int.reduceNe, Int.reduceBEq, Int.reduceBNe, Int.reduceAdd, Int.reduceSub]
              exact Fini.trim2 (σ' := σ) rfl rfl (Nat.le_refl _) (by unfold readV; exact bel_tup3 .nils) hbel
            | some x2 =>
              obtain ⟨v, u3⟩ := x2
              have ht2' : textR 40 (b.drop (b.length - u2.length)) = some (v, u3) := by rw [q1]; exact ht2
              obtain ⟨z1, z2, z3⟩ := (ends_text 40).drop (b := b) (a := b.length - u2.length) (by omega) ht2'
              have a2 := addN (a := b.length - u2.length) (b := u2.length - u3.length) (by omega)
              have e3 : b.length - u2.length + (u2.length - u3.length) = b.length - u3.length := by omega
              rw [e3] at a2
              rw [ht2] at hm
              simp only [Option.bind_some, Option.map_some] at hm
              have hin := wrap_succ (i := i) (by omega)
              have hle : i + 1 ≤ 4294967296 := by omega
              have hgo := hJ ⟨(i + 1, l ++ [mkM (c, nm, v)], b.length - u3.length), by simp only; omega, by simp [hll], by simp only; omega, (by
                intro y hy
                simp only [List.mem_append, List.mem_singleton] at hy
                rcases hy with hy | rfl
                · exact hsz y hy
                · simp only [mkM]; omega), (by
                simp only
                rw [hm, z1, show n - (i + 1) = m by omega]
                cases manyR mtrR m u3 <;> simp)⟩ (by simp only; omega)
              have hsn := mvs3_snoc l (mkM (c, nm, v))
              rw [textV_some ht2]
              simp -implicitDefEqProofs only [go_sem, List.reduceReplicate, Nat.reduceAdd, Nat.reduceSub, Nat.reduceLT, Nat.reduceLeDiff, Nat.reduceMul, Nat.reduceEqDiff, reduceCtorEq, Int.reduceLE, Int.reduceLT, Int.reduceEq, Int.reduceNe, Int.reduceBEq, Int.reduceBNe, Int.reduceAdd, Int.reduceSub, a2, g0, s0, hlm, List.length_singleton, hle, hin]
              simp only [← hsn] at hgo
              exact hgo
        · have hnil : b.drop at_ = [] := List.drop_eq_nil_of_le (by omega)
          have d1 : decide ((b.length : Int) ≤ at_) = true := by simp; omega
          rw [hnil, mtrR_nil] at hm
          simp only [Option.bind_none, Option.map_none] at hm
          rw [hm] at hR
          simp only [Option.bind_none] at hR
          rw [hR]
          simp -implicitDefEqProofs only [mkE, List.foldl_cons, List.foldl_nil, go_sem, List.reduceReplicate, Nat.reduceAdd, Nat.reduceSub, Nat.reduceLT, Nat.reduceLeDiff, Nat.reduceMul, Nat.reduceEqDiff, reduceCtorEq, Int.reduceLE, Int.reduceLT, Int.reduceEq, Int.reduceNe, Int.reduceBEq, Int.reduceBNe, Int.reduceAdd, Int.reduceSub, hwn, d0, byv_len, d1]
          exact Fini.trim2 (σ' := σ) rfl rfl (Nat.le_refl _) (by unfold readV; exact bel_tup3 .nils) hbel
      · have hie : i = n := by omega
        subst hie
        have d0 : decide ((i : Int) < i) = false := by simp
        rw [Nat.sub_self] at hm
        simp only [manyR, Option.map_some, List.append_nil] at hm
        rw [hm] at hR
        simp only [Option.bind_some] at hR
        simp -implicitDefEqProofs only [mkE, List.foldl_cons, List.foldl_nil, go_sem, List.reduceReplicate, Nat.reduceAdd, Nat.reduceSub, Nat.reduceLT, Nat.reduceLeDiff, Nat.reduceMul, Nat.reduceEqDiff, reduceCtorEq, Int.reduceLE, Int.reduceLT, Int.reduceEq, Int.reduceNe, Int.reduceBEq, Int.reduceBNe, Int.reduceAdd, Int.reduceSub, hwn, d0, g0, s0, hlm]
        refine CO.intro (dlist_ans _ l hsz) ?_
        cases hlb : listB l with
        | false =>
          rw [hlb] at hR
          simp only [Bool.false_eq_true, if_false] at hR
          rw [hR]
          simp -implicitDefEqProofs only [go_sem, List.reduceReplicate, Nat.reduceAdd, Nat.reduceSub, Nat.reduceLT, Nat.reduceLeDiff, Nat.reduceMul, Nat.reduceEqDiff, reduceCtorEq, Int.reduceLE, Int.reduceLT, Int.reduceEq, Int.reduceNe, Int.reduceBEq, Int.reduceBNe, Int.reduceAdd, Int.reduceSub]
          exact Fini.trim2 (σ' := σ) rfl rfl (Nat.le_refl _) (by unfold readV; exact bel_tup3 .nils) hbel
        | true =>
          rw [hlb] at hR
          simp only [if_true] at hR
          have hlen : b.length - (b.drop at_).length = at_ := by rw [List.length_drop]; omega
          rw [hR]
          unfold readV
          simp only [hlen]
          simp -implicitDefEqProofs only [go_sem, List.reduceReplicate, Nat.reduceAdd, Nat.reduceSub, Nat.reduceLT, Nat.reduceLeDiff, Nat.reduceMul, Nat.reduceEqDiff, reduceCtorEq, Int.reduceLE, Int.reduceLT, Int.reduceEq, Int.reduceNe, Int.reduceBEq, Int.reduceBNe, Int.reduceAdd, Int.reduceSub]
          exact Fini.trim2 (σ' := σ) rfl rfl (Nat.le_refl _) (bel_tup3 (hbm _)) hbel
theorem dread_ans (σ : St) (b : Byt) (hb : b.length ≤ 50000) : Ans Try.prog 42 [.sl 1 (byv b)] σ (readV (listR b) b (fun M => .sl 3 (mvs3 M)) (.sl 3 [])) σ := by
  refine (dread_ans0 σ b hb).subR ?_
  unfold readV
  cases listR b with
  | none => exact .tup (.cons (.nils 3) (.refl _))
  | some p => exact .refl _
end Go.Proofs.Ytoadgajhkhejiaa
namespace Go.Proofs.Ytoadgajhkhejiaa
open Go Go.Ab Go.ChangeShapes Go.WideShapes Go.ChangeAt Go.RowKit
set_option maxRecDepth 100000
def QMtr : List AV → Prop := fun xs => ∃ (k : Int) (a b : ByteArray), xs = [I k, Sx a, Sx b]
theorem reads_mtr (f : Nat) : Reads Try.prog 23 f QMtr := by
  cases f with
  | zero => exact Reads.zero
  | succ f =>
    have h := Reads.struct (P := Try.prog) (t := 23) (f := f) (Qs := [QInt .i64, QText, QText]) Try.underlying23 (by kernel_rfl) rfl (by
      intro p hp
      simp only [List.zip_cons_cons, List.zip_nil_right, List.mem_cons, List.not_mem_nil, or_false] at hp
      rcases hp with rfl | rfl | rfl
      · exact Reads.int Try.underlying3 f
      · exact Reads.text Try.underlying9 f
      · exact Reads.text Try.underlying9 f)
    refine h.mono fun xs hq => ?_
    obtain ⟨_, b, rfl, ⟨k, _, rfl⟩, _, d, rfl, ⟨n, _, rfl⟩, _, _, rfl, ⟨v, _, rfl⟩, rfl⟩ := hq
    exact ⟨k, n, v, rfl⟩
theorem mtrs_of : ∀ {ys : List (List AV)}, (∀ y ∈ ys, QMtr y) → ∃ L : List Mtr, ys.map (wrapC true) = mvs3 L
  | [], _ => ⟨[], rfl⟩
  | y :: ys, h => by
    obtain ⟨k, a, b, rfl⟩ := h y List.mem_cons_self
    obtain ⟨L, hL⟩ := mtrs_of fun y hy => h y (List.mem_cons_of_mem _ hy)
    exact ⟨(k, a, b) :: L, by rw [List.map_cons, hL]; rfl⟩
theorem mtrs_arg {H : Type} {enc : TypeId × Value → H} {W : World} {base : Nat} {v : Value} {d : DataW H} {ps : List MemPlace} (hv : Value.okWide Try.prog W .any base 26 v)
    (h : DataW.Trod enc Try.prog W 0 (fun _ => true) true 26 v d ps) : ∃ L : List Mtr, Rep noM noR W (.sl 3 (mvs3 L)) v := by
  obtain ⟨sa, len, cap, rfl⟩ := okWide_slice Try.underlying26 hv
  obtain ⟨x, hx, hq⟩ := Reads.arg (P := Try.prog) (t := 26) (Q := QSlice 3 true QMtr) (fun f => by
    cases f with
    | zero => exact Reads.zero
    | succ f => exact Reads.slice true Try.underlying26 (by kernel_rfl) (by decide) (reads_mtr f) (fun y _ _ => rfl)) rfl h
  rcases hq with hq | ⟨ys, hys, _, hq⟩
  · simp only [List.cons.injEq, and_true] at hq
    subst hq
    refine ⟨[], ?_⟩
    cases hx
    exact .sl0 _ _ _
  · obtain ⟨L, hn⟩ := mtrs_of hys
    simp only [List.cons.injEq, and_true] at hq
    subst hq
    rw [hn] at hx
    exact ⟨L, hx⟩
end Go.Proofs.Ytoadgajhkhejiaa
namespace Go.Proofs.Ytoadgajhkhejiaa
open Go Go.Ab Go.Cod Go.ChangeShapes Go.WideShapes Go.ChangeAt Go.RowKit
set_option maxRecDepth 100000
def eqMt (x y : Mtr) : Bool := x.1 == y.1 && (x.2.1.toList == y.2.1.toList && (x.2.2.toList == y.2.2.toList && true))
def sameM (A B : List Mtr) : Bool := decide (A.length = B.length) && (List.range A.length).all fun i => eqMt (A.getD i noM3) (B.getD i noM3)
theorem eqMt_refl (x : Mtr) : eqMt x x = true := by simp [eqMt]
theorem sameM_refl (A : List Mtr) : sameM A A = true := by simp [sameM, eqMt_refl]
theorem samem_ans (σ : St) (A B : List Mtr) (hA : A.length ≤ 1000) : Ans Try.prog 45 [.sl 3 (mvs3 A), .sl 3 (mvs3 B)] σ (Bo (sameM A B)) σ := by
  refine Ans.of_run t45 ?_
  have e0 : ((A.length : Int) != B.length) = !decide (A.length = B.length) := by
    rw [Bool.eq_iff_iff]; simp only [bne_iff_ne, Bool.not_eq_true', decide_eq_false_iff_not]; omega
  unfold sameM
  by_cases hl : A.length = B.length
  · rw [decide_eq_true hl, Bool.true_and]
    rw [decide_eq_true hl] at e0
    simp -implicitDefEqProofs only [c45, r45, go_sem, List.reduceReplicate, Nat.reduceAdd, Nat.reduceSub, Nat.reduceLT, Nat.reduceLeDiff, Nat.reduceMul, Nat.reduceEqDiff, reduceCtorEq, Int.reduceLE, Int.reduceLT, Int.reduceEq, Int.reduceNe, Int.reduceBEq, Int.reduceBNe, Int.reduceAdd, Int.reduceSub, mvs3_len, e0]
    refine Go.Ab.L.scan A.length (fun i => eqMt (A.getD i noM3) (B.getD i noM3)) (fun i => mkE 26 [(0, .sl 3 (mvs3 A)), (1, .sl 3 (mvs3 B)), (5, I i)]) (fun _ => σ) ?_ ?_ rfl rfl
    · intro i hi hp J hJ
      have hx := mget_D A i hi
      have hy := mget_D B i (by omega)
      have hlB : ((i : Int) < B.length) = True := by simp; omega
      have hF : eqMt (A.getD i noM3) (B.getD i noM3) = false → ((List.range A.length).all fun i => eqMt (A.getD i noM3) (B.getD i noM3)) = false := fun h => List.all_eq_false.2 ⟨i, List.mem_range.2 hi, by rw [h]; decide⟩
      have hin := wrap_succ (i := i) (by omega)
      generalize A.getD i noM3 = x at hx hJ hF
      generalize B.getD i noM3 = y at hy hJ hF
      simp -implicitDefEqProofs only [mkE, List.foldl_cons, List.foldl_nil, go_sem, List.reduceReplicate, Nat.reduceAdd, Nat.reduceSub, Nat.reduceLT, Nat.reduceLeDiff, Nat.reduceMul, Nat.reduceEqDiff, reduceCtorEq, Int.reduceLE, Int.reduceLT, Int.reduceEq, Int.reduceNe, Int.reduceBEq, Int.reduceBNe, Int.reduceAdd, Int.reduceSub, mvs3_len, nat_lt hi, dec_lt hi, hlB, hx, hy, mv3, Bool.true_xor]
      cases hb : eqMt x y with
      | true =>
        have hgo := hJ hb
        have hb' : (x.1 == y.1 && (x.2.1.toList == y.2.1.toList && (x.2.2.toList == y.2.2.toList && true))) = true := hb
        simp only [Bool.and_true] at hb'
        simp -implicitDefEqProofs only [go_sem, List.reduceReplicate, Nat.reduceAdd, Nat.reduceSub, Nat.reduceLT, Nat.reduceLeDiff, Nat.reduceMul, Nat.reduceEqDiff, reduceCtorEq, Int.reduceLE, Int.reduceLT, Int.reduceEq, Int.reduceNe, Int.reduceBEq, Int.reduceBNe, Int.reduceAdd, Int.reduceSub, hb', hin]
        exact hgo
      | false =>
        have hb' : (x.1 == y.1 && (x.2.1.toList == y.2.1.toList && (x.2.2.toList == y.2.2.toList && true))) = false := hb
        simp only [Bool.and_true] at hb'
        rw [hF hb]
        simp -implicitDefEqProofs only [go_sem, List.reduceReplicate, Nat.reduceAdd, Nat.reduceSub, Nat.reduceLT, Nat.reduceLeDiff, Nat.reduceMul, Nat.reduceEqDiff, reduceCtorEq, Int.reduceLE, Int.reduceLT, Int.reduceEq, Int.reduceNe, Int.reduceBEq, Int.reduceBNe, Int.reduceAdd, Int.reduceSub, hb']
        exact Fini.ret rfl
    · intro hp J
      have hd : decide ((A.length : Int) < A.length) = false := by simp
      simp -implicitDefEqProofs only [mkE, List.foldl_cons, List.foldl_nil, go_sem, List.reduceReplicate, Nat.reduceAdd, Nat.reduceSub, Nat.reduceLT, Nat.reduceLeDiff, Nat.reduceMul, Nat.reduceEqDiff, reduceCtorEq, Int.reduceLE, Int.reduceLT, Int.reduceEq, Int.reduceNe, Int.reduceBEq, Int.reduceBNe, Int.reduceAdd, Int.reduceSub, mvs3_len, hd]
      refine Fini.ret' rfl (bo_congr ?_)
      exact (List.all_eq_true.2 fun i hi => hp i (List.mem_range.1 hi)).symm
  · rw [decide_eq_false hl, Bool.false_and]
    rw [decide_eq_false hl] at e0
    simp -implicitDefEqProofs only [c45, r45, go_sem, List.reduceReplicate, Nat.reduceAdd, Nat.reduceSub, Nat.reduceLT, Nat.reduceLeDiff, Nat.reduceMul, Nat.reduceEqDiff, reduceCtorEq, Int.reduceLE, Int.reduceLT, Int.reduceEq, Int.reduceNe, Int.reduceBEq, Int.reduceBNe, Int.reduceAdd, Int.reduceSub, mvs3_len, e0]
    exact Fini.ret rfl
theorem wf8 {n : Int} (h : (Lit.int .u8 n).wf = true) : 0 ≤ n ∧ n < 256 := by
  simp [Lit.wf, IntKind.min, IntKind.max, IntKind.bits, IntKind.signed] at h
  omega
theorem byts_of : ∀ {ys : List (List AV)}, (∀ y ∈ ys, QInt .u8 y) → ∃ b : Byt, ys.map (wrapC false) = byv b
  | [], _ => ⟨[], rfl⟩
  | y :: ys, h => by
    obtain ⟨m, hm, rfl⟩ := h y List.mem_cons_self
    obtain ⟨b, hb⟩ := byts_of (ys := ys) (fun z hz => h z (List.mem_cons_of_mem _ hz))
    obtain ⟨h0, h1⟩ := wf8 hm
    obtain ⟨n, rfl⟩ := Int.eq_ofNat_of_zero_le h0
    refine ⟨n.toUInt8 :: b, ?_⟩
    rw [List.map_cons, hb, byv_cons, ← bc_of (show n < 256 by omega)]
    rfl
theorem byts_arg {H : Type} {enc : TypeId × Value → H} {W : World} {base : Nat} {v : Value} {d : DataW H} {ps : List MemPlace} (hv : Value.okWide Try.prog W .any base 69 v)
    (h : DataW.Trod enc Try.prog W 0 (fun _ => true) true 69 v d ps) : ∃ b : Byt, Rep noM noR W (.sl 1 (byv b)) v := by
  obtain ⟨sa, len, cap, rfl⟩ := okWide_slice Try.underlying69 hv
  obtain ⟨x, hx, hq⟩ := Reads.arg (P := Try.prog) (t := 69) (Q := QSlice 1 false (QInt .u8)) (fun f => by
    cases f with
    | zero => exact Reads.zero
    | succ f => exact Reads.slice false Try.underlying69 (by kernel_rfl) (by decide) (Reads.int Try.underlying5 f) (fun y hy _ => by obtain ⟨n, _, rfl⟩ := hy; rfl)) rfl h
  rcases hq with hq | ⟨ys, hys, _, hq⟩
  · simp only [List.cons.injEq, and_true] at hq
    subst hq
    refine ⟨[], ?_⟩
    have := hx.nils_inv
    rw [this]
    exact .sl0 _ _ _
  · obtain ⟨b, hn⟩ := byts_of hys
    simp only [List.cons.injEq, and_true] at hq
    subst hq
    rw [hn] at hx
    exact ⟨b, hx⟩
end Go.Proofs.Ytoadgajhkhejiaa
