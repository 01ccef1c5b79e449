/- Words, values and bands as bytes, by the document. No condition. -/
import Derived.Test.YtmkmhhjkdaklbaaGreatXMRcb
import Derived.Test.YtmkmhhjkdaklbaaGreatProg
import Derived.Test.YtmkmhhjkdaklbaaGreatAbStep
set_option linter.unusedSimpArgs false
set_option linter.unusedVariables false
namespace Go.Proofs.YtmkmhhjkdaklbaaGreat
open Go Go.Ab Go.Cod
set_option maxRecDepth 100000
theorem okV_def (u : Nat) : okV u = !(nanF u && ((u : Int) != 9221120237041090561)) := by
 unfold okV bitsF
 cases nanF u with
 | false => simp
 | true =>
   rw [Bool.eq_iff_iff]
   simp only [decide_eq_true_eq, if_true, Bool.true_and, bne, Bool.not_not, beq_iff_eq]
   omega
theorem val2 (t : Byt) : seqR valR valR t = if 16 ≤ t.length then (if okV (wN (t.take 8)) && okV (wN ((t.drop 8).take 8)) then some ((wN (t.take 8), wN ((t.drop 8).take 8)), t.drop 16) else none) else none := by
 simp only [seqR, valR, onlyR, wordR_of, List.length_drop]
 by_cases h : 8 ≤ t.length
 · rw [if_pos h]
   simp only [Option.bind_some]
   cases okV (wN (t.take 8)) with
   | false => simp
   | true =>
     simp only [if_true, Option.bind_some, Bool.true_and]
     rw [List.length_drop]
     by_cases h2 : 16 ≤ t.length
     · rw [if_pos (by omega), if_pos h2]
       simp only [Option.bind_some]
       cases okV (wN ((t.drop 8).take 8)) with
       | false => simp
       | true => simp
     · rw [if_neg (by omega), if_neg h2]; rfl
 · rw [if_neg h, if_neg (by omega)]; rfl
section
variable (σ : St)
theorem dputword_ans (n : Nat) : Ans Tryz.prog 97 [UN n] σ (.sl 1 (byv (wrdB n))) σ := by
 refine Ans.of_run' t97 (fun hbel _ => ?_)
 have z8 : Int.toNat 8 = 8 := rfl
 simp -implicitDefEqProofs only [c97, r97, go_sem, mks8, z8, g0, s0, List.length_cons, List.length_nil]
 refine Go.Ab.L.count 8 (fun i => mkE 21 [(0, UN n), (3, .osl σ.length 8), (4, I i)]) (fun i => σ ++ [.row 1 (fillW n i)]) ?_ ?_ rfl rfl
 · intro i hi J hJ
   have hl := fillW_len n i (by omega)
   have d0 : decide ((i : Int) < 8) = true := by simp; omega
   have w1 : IntKind.i64.wrap (8 * (i : Int)) = ((8 * i : Nat) : Int) := by rw [wrapN (by omega) (by omega)]; push_cast; rfl
   have w2 : IntKind.i64.wrap (56 - ((8 * i : Nat) : Int)) = ((56 - 8 * i : Nat) : Int) := by rw [wrapN (by omega) (by omega)]; omega
   have w3 := wrapUN (n := 56 - 8 * i) (by omega)
   have h3 := shrN n (56 - 8 * i) (by omega)
   rw [Int.toNat_natCast] at h3
   have hlt : ((i : Int) < ((8 : Nat) : Int)) = True := eq_true (by omega)
   have hget : (fillW n i)[i]? = some Zb := fillW_get n i hi
   have hin := wrap_succ (i := i) (by omega)
   have hset : (fillW n i).set i (.pl (.int .u8 ((n / 2 ^ (56 - 8 * i)).toUInt8.toNat : Nat))) = fillW n (i + 1) := fillW_set n i hi
   simp -implicitDefEqProofs only [mkE, go_sem, d0, w1, w2, w3, h3, wrap8U, g0, s0, hl, hin, hset, hlt, hget]
   exact hJ
 · intro J
   have hl := fillW_len n 8 (by omega)
   have d0 : decide (((8 : Nat) : Int) < 8) = false := by decide
   have e8 : fillW n 8 = byv (wrdB n) := by unfold fillW; rw [List.take_of_length_le (by rw [byv_len, wrdB_len]; omega)]; simp
   simp -implicitDefEqProofs only [mkE, go_sem, d0, g0, s0, hl, e8]
   exact Fini.trim2 (σ' := σ) rfl rfl (Nat.le_refl _) (bel_byv _ _) hbel
theorem dgetword_ans (b : Byt) (hb : b.length ≤ 100000) : Ans Tryz.prog 118 [.sl 1 (byv b)] σ (wordV b) σ := by
 refine Ans.of_run t118 ?_
 unfold wordV
 rw [wordR_of]
 by_cases h8 : 8 ≤ b.length
 · have d0 : decide ((b.length : Int) < 8) = false := by simp; omega
   have z8 : Int.toNat 8 = 8 := rfl
   rw [if_pos h8]
   simp only
   simp -implicitDefEqProofs only [c118, r118, go_sem, byv_len, d0]
   refine Go.Ab.L.count 8 (fun i => mkE 22 [(0, .sl 1 (byv b)), (4, UN (wN (b.take i))), (5, I i)]) (fun _ => σ) ?_ ?_ rfl rfl
   · intro i hi J hJ
     have hib : i < b.length := by omega
     have hx := byv_get b i hib
     have hs : b.take (i + 1) = b.take i ++ [b[i]] := List.take_succ_eq_append_getElem hib
     rw [hs, wN_snoc] at hJ
     have hl := wN_lt (b.take i)
     rw [List.length_take] at hl
     have hl : wN (b.take i) < 2 ^ 56 := Nat.lt_of_lt_of_le hl (Nat.pow_le_pow_right (by decide) (by omega))
     have hc := (b[i]).toNat_lt
     generalize b[i] = c at hx hJ hc
     generalize wN (b.take i) = w at hl hJ ⊢
     have hor := or_low w c.toNat hc hl
     have hwc := wrapUN (n := c.toNat) (by omega)
     have d1 : decide ((i : Int) < 8) = true := by simp; omega
     have hin := wrap_succ (i := i) (by omega)
     simp -implicitDefEqProofs only [mkE, go_sem, d1, byv_len, nat_lt hib, hx, bc, hwc, z8, hin]
     have key : ∀ v : Int, v = ((w * 256 + c.toNat : Nat) : Int) → J (mkE 22 [(0, .sl 1 (byv b)), (4, .pl (.int .u64 v)), (5, I ((i + 1 : Nat) : Int))]) σ := by
      rintro _ rfl
      exact hJ
     exact key _ hor
   · intro J
     have d1 : decide (((8 : Nat) : Int) < 8) = false := by decide
     simp -implicitDefEqProofs only [mkE, go_sem, d1]
     exact Fini.ret rfl
 · have d0 : decide ((b.length : Int) < 8) = true := by simp; omega
   rw [if_neg h8]
   simp -implicitDefEqProofs only [c118, r118, go_sem, byv_len, d0]
   exact Fini.ret rfl
theorem dfrom_ans (u : Nat) : Ans Tryz.prog 119 [UN u] σ (.tup [Fl (if okV u then u else 0), Bo (okV u)]) σ := by
 have e := okV_def u
 refine Ans.of_run t119 ?_
 simp -implicitDefEqProofs only [c119, r119, go_sem]
 refine CO.intro (frombits_ans σ u) ?_
 simp -implicitDefEqProofs only [go_sem, nanF_def]
 cases h : nanF u with
 | false =>
   rw [h] at e
   have e : okV u = true := e
   simp -implicitDefEqProofs only [go_sem, e]
   exact Fini.ret rfl
 | true =>
   rw [h] at e
   cases h2 : ((u : Int) != 9221120237041090561) with
   | true =>
     rw [h2] at e
     have e : okV u = false := e
     simp -implicitDefEqProofs only [go_sem, h2, e]
     exact Fini.ret rfl
   | false =>
     rw [h2] at e
     have e : okV u = true := e
     simp -implicitDefEqProofs only [go_sem, h2, e]
     exact Fini.ret rfl
theorem dbandbytes_ans (x : Bnd) : Ans Tryz.prog 74 [bandV x] σ (.sl 1 (byv (putBd x))) σ := by
 obtain ⟨any, lo, hi⟩ := x
 refine Ans.of_run' t74 (fun hbel _ => ?_)
 unfold bandV putBd
 cases any with
 | true =>
   simp -implicitDefEqProofs only [c74, r74, go_sem]
   exact Fini.ret rfl
 | false =>
   have i1 := fun s => dbits_ans s lo
   have i2 := fun s => dbits_ans s hi
   have i3 := fun s => dputword_ans s (bitsF lo)
   have i4 := fun s => dputword_ans s (bitsF hi)
   have l1 : (wrdB (bitsF lo)).length = 8 := rfl
   have l2 : (wrdB (bitsF hi)).length = 8 := rfl
   unfold putV
   generalize wrdB (bitsF lo) = a at i3 l1 ⊢
   generalize wrdB (bitsF hi) = c at i4 l2 ⊢
   have p1 : (1 + 8 ≤ 2 ^ 32) = True := eq_true (by decide)
   have p2 : (1 + 8 + 8 ≤ 2 ^ 32) = True := eq_true (by decide)
   simp -implicitDefEqProofs only [c74, r74, go_sem, D_callS]
   first | refine CD.intro (i1 _) ?_ | refine CS.intro i1 ?_
   simp -implicitDefEqProofs only [go_sem, D_callS]
   first | refine CD.intro (i3 _) ?_ | refine CS.intro i3 ?_
   simp -implicitDefEqProofs only [go_sem, D_callS, g0, s0, byv_len, byv_all', bc, l1, p1, List.length_cons, List.length_nil, List.length_append]
   first | refine CD.intro (i2 _) ?_ | refine CS.intro i2 ?_
   simp -implicitDefEqProofs only [go_sem, D_callS]
   first | refine CD.intro (i4 _) ?_ | refine CS.intro i4 ?_
   simp -implicitDefEqProofs only [go_sem, D_callS, g0, s0, byv_len, byv_all', bc, l1, l2, p2, List.length_cons, List.length_nil, List.length_append]
   exact Fini.trim2 (σ' := σ) (ex := [_]) (by rw [byv_cons, byv_append]; rfl) rfl (Nat.le_refl _) (bel_byv _ _) hbel
theorem dreadband_ans (b : Byt) (hb : b.length ≤ 50000) : Ans Tryz.prog 64 [.sl 1 (byv b)] σ (readV (bandR b) b bandV (bandV (false, 0, 0))) σ := by
 have z0 : Int.toNat 0 = 0 := rfl
 have key : ∀ (any : Bool) (lo hi : Nat), Bel σ.length (.agg [Bo any, Fl lo, Fl hi]) := fun any lo hi => bel_bandV _ (any, lo, hi)
 obtain hbt | ⟨c, t, hbt⟩ : b = [] ∨ ∃ c t, b = c :: t := by
  cases b with
  | nil => exact .inl rfl
  | cons c t => exact .inr ⟨c, t, rfl⟩
 · have e : bandR b = none := by rw [hbt]; rfl
   rw [readV_none e]
   refine Ans.of_run' t64 (fun hbel _ => ?_)
   unfold bandV
   have d0 : decide ((0 : Int) < (b.length : Nat)) = false := by rw [hbt]; decide
   have d1 : decide ((b.length : Int) < 17) = true := by rw [hbt]; decide
   simp -implicitDefEqProofs only [c64, r64, go_sem, byv_len, d0, d1, g0, s0]
   exact Fini.trim2 (σ' := σ) (ex := [_]) (by simp -implicitDefEqProofs only [go_sem, resA, allSome, rvA, oneOf, g0] <;> rfl) rfl (Nat.le_refl _) (bel_tup3 (key _ _ _)) hbel
 · have hbl : b.length = t.length + 1 := by rw [hbt]; rfl
   have d0 : decide ((0 : Int) < (b.length : Nat)) = true := by simp; omega
   have hpos : ((0 : Int) < (b.length : Nat)) = True := eq_true (by omega)
   have hx : (byv b)[0]? = some (bc c) := by rw [hbt]; rfl
   by_cases h1 : c = 1
   · subst h1
     have e : bandR b = some ((true, 0, 0), t) := by
      rw [hbt]
      have : mayB true 0 0 = true := by decide +kernel
      simp [bandR, onlyR, bnd0, this]
     have en : b.length - t.length = 1 := by omega
     have e1 : ((((1 : UInt8).toNat : Nat) : Int) == 1) = true := rfl
     rw [readV_some e, en]
     refine Ans.of_run' t64 (fun hbel _ => ?_)
     unfold bandV
     simp -implicitDefEqProofs only [c64, r64, go_sem, byv_len, z0, d0, hpos, hx, bc, e1, g0, s0]
     exact Fini.trim2 (σ' := σ) (ex := [_]) (by simp -implicitDefEqProofs only [go_sem, resA, allSome, rvA, oneOf, g0] <;> rfl) rfl (Nat.le_refl _) (bel_tup3 (key _ _ _)) hbel
   · have e1 : (((c.toNat : Nat) : Int) == 1) = false := by
      rw [Bool.eq_false_iff]
      intro h
      rw [beq_iff_eq] at h
      exact h1 (UInt8.toNat_inj.1 (by rw [show (1 : UInt8).toNat = 1 from rfl]; omega))
     by_cases h17 : t.length < 16
     · have d1 : decide ((b.length : Int) < 17) = true := by simp; omega
       have e : bandR b = none := by
        rw [hbt]
        simp only [bandR, onlyR, bnd0, val2, if_neg (show ¬ 16 ≤ t.length by omega), h1, if_false, Option.map_none]
        split <;> rfl
       rw [readV_none e]
       refine Ans.of_run' t64 (fun hbel _ => ?_)
       unfold bandV
       simp -implicitDefEqProofs only [c64, r64, go_sem, byv_len, z0, d0, d1, hpos, hx, bc, e1, g0, s0]
       exact Fini.trim2 (σ' := σ) (ex := [_]) (by simp -implicitDefEqProofs only [go_sem, resA, allSome, rvA, oneOf, g0] <;> rfl) rfl (Nat.le_refl _) (bel_tup3 (key _ _ _)) hbel
     · have d1 : decide ((b.length : Int) < 17) = false := by simp; omega
       by_cases h0 : c = 0
       · subst h0
         have en : ((((0 : UInt8).toNat : Nat) : Int) != 0) = false := rfl
         have l1 : ((1 : Int) ≤ (b.length : Nat)) = True := eq_true (by omega)
         have l9 : ((9 : Int) ≤ (b.length : Nat)) = True := eq_true (by omega)
         have z1 : Int.toNat 1 = 1 := rfl
         have z9 : Int.toNat 9 = 9 := rfl
         have e9 : b.drop 9 = t.drop 8 := by rw [hbt]; rfl
         have ez : b.drop 1 = t := by rw [hbt]; rfl
         have w1 := fun s => dgetword_ans s t (by omega)
         have w2 := fun s => dgetword_ans s (t.drop 8) (by rw [List.length_drop]; omega)
         have x1 : wordR t = some (wN (t.take 8), t.drop 8) := by rw [wordR_of, if_pos (by omega)]
         have x2 : wordR (t.drop 8) = some (wN ((t.drop 8).take 8), (t.drop 8).drop 8) := by rw [wordR_of, if_pos (by rw [List.length_drop]; omega)]
         unfold wordV at w1 w2
         rw [x1] at w1
         rw [x2] at w2
         have hB : bandR b = (if okV (wN (t.take 8)) && okV (wN ((t.drop 8).take 8)) then some ((wN (t.take 8), wN ((t.drop 8).take 8)), t.drop 16) else none).bind fun x => if mayB false x.1.1 x.1.2 then some ((false, x.1.1, x.1.2), x.2) else none := by
          rw [hbt]
          simp only [bandR, onlyR, bnd0, val2, if_pos (show 16 ≤ t.length by omega), if_true]
          split
          · rfl
          · rfl
         have hlen : b.length - (t.drop 16).length = 17 := by rw [List.length_drop]; omega
         generalize wN (t.take 8) = u at w1 hB
         generalize wN ((t.drop 8).take 8) = v at w2 hB
         have f1 := fun s => dfrom_ans s u
         have f2 := fun s => dfrom_ans s v
         refine Ans.of_run' t64 (fun hbel _ => ?_)
         unfold bandV
         simp -implicitDefEqProofs only [c64, r64, go_sem, byv_len, z0, d0, d1, hpos, hx, bc, e1, en, l1, l9, z1, z9, byv_take, byv_drop, e9, ez, List.take_length, Int.le_refl, g0, s0]
         refine CO.intro (w1 _) ?_
         simp -implicitDefEqProofs only [go_sem, byv_len, l1, l9, z1, z9, byv_take, byv_drop, e9, ez, List.take_length, Int.le_refl]
         refine CO.intro (w2 _) ?_
         simp -implicitDefEqProofs only [go_sem]
         refine CO.intro (f1 _) ?_
         simp -implicitDefEqProofs only [go_sem]
         refine CO.intro (f2 _) ?_
         simp -implicitDefEqProofs only [go_sem]
         have m1 := fun s => dmay_ans s false u v
         cases ho : okV u with
         | false =>
           rw [ho] at hB
           have hB : bandR b = none := hB
           rw [readV_none hB]
           simp -implicitDefEqProofs only [go_sem, g0, s0]
           exact Fini.trim2 (σ' := σ) (ex := [_]) (by simp -implicitDefEqProofs only [go_sem, resA, allSome, rvA, oneOf, g0] <;> rfl) rfl (Nat.le_refl _) (bel_tup3 (key _ _ _)) hbel
         | true =>
           cases hp : okV v with
           | false =>
             rw [ho, hp] at hB
             have hB : bandR b = none := hB
             rw [readV_none hB]
             simp -implicitDefEqProofs only [go_sem, g0, s0]
             exact Fini.trim2 (σ' := σ) (ex := [_]) (by simp -implicitDefEqProofs only [go_sem, resA, allSome, rvA, oneOf, g0] <;> rfl) rfl (Nat.le_refl _) (bel_tup3 (key _ _ _)) hbel
           | true =>
             rw [ho, hp] at hB
             have hB : bandR b = if mayB false u v then some ((false, u, v), t.drop 16) else none := hB
             simp -implicitDefEqProofs only [go_sem, if_true]
             refine CO.intro (m1 _) ?_
             cases hm : mayB false u v with
             | false =>
               rw [hm] at hB
               have hB : bandR b = none := hB
               rw [readV_none hB]
               simp -implicitDefEqProofs only [go_sem, g0, s0]
               exact Fini.trim2 (σ' := σ) (ex := [_]) (by simp -implicitDefEqProofs only [go_sem, resA, allSome, rvA, oneOf, g0] <;> rfl) rfl (Nat.le_refl _) (bel_tup3 (key _ _ _)) hbel
             | true =>
               rw [hm] at hB
               have hB : bandR b = some ((false, u, v), t.drop 16) := hB
               rw [readV_some hB, hlen]
               simp -implicitDefEqProofs only [go_sem, g0, s0]
               exact Fini.trim2 (σ' := σ) (ex := [_]) (by simp -implicitDefEqProofs only [go_sem, resA, allSome, rvA, oneOf, g0] <;> rfl) rfl (Nat.le_refl _) (bel_tup3 (key _ _ _)) hbel
       · have e0 : (((c.toNat : Nat) : Int) != 0) = true := by
          rw [bne, Bool.not_eq_true', Bool.eq_false_iff]
          intro h
          rw [beq_iff_eq] at h
          exact h0 (UInt8.toNat_inj.1 (by rw [show (0 : UInt8).toNat = 0 from rfl]; omega))
         have e : bandR b = none := by rw [hbt]; simp only [bandR, onlyR, bnd0, h0, h1, if_false, Option.bind_none]
         rw [readV_none e]
         refine Ans.of_run' t64 (fun hbel _ => ?_)
         unfold bandV
         simp -implicitDefEqProofs only [c64, r64, go_sem, byv_len, z0, d0, d1, hpos, hx, bc, e1, e0, g0, s0]
         exact Fini.trim2 (σ' := σ) (ex := [_]) (by simp -implicitDefEqProofs only [go_sem, resA, allSome, rvA, oneOf, g0] <;> rfl) rfl (Nat.le_refl _) (bel_tup3 (key _ _ _)) hbel
end
end Go.Proofs.YtmkmhhjkdaklbaaGreat
namespace Go.Proofs.YtmkmhhjkdaklbaaGreat
open Go Go.Ab Go.Cod
set_option maxRecDepth 100000
section
variable (σ : St)
theorem dput_sl (n : Nat) (hn : n < 18446744073709551616) : Ans Tryz.prog 75 [UN n] σ (.sl 1 (byv (putN n))) σ := (dput_ans σ n hn).shut (by rw [byv_len]) (bel_byv _ _)
theorem drubytes_ans (r : RuM) (hr : RSm r) : Ans Tryz.prog 20 [ruV r] σ (.sl 1 (byv (bytesRu r))) σ := by
 have hi := fun s => druis_ans s r hr
 unfold bytesRu
 cases hR : ruIs r with
 | false =>
   have : Ans Tryz.prog 20 [ruV r] σ .nils σ := by
    refine Ans.of_run t20 ?_
    unfold ruV at hi ⊢
    simp -implicitDefEqProofs only [c20, r20, go_sem]
    refine CO.intro (hi _) ?_
    rw [hR]
    simp -implicitDefEqProofs only [go_sem]
    exact Fini.ret rfl
   exact this.subR (.nils 1)
 | true =>
   obtain ⟨h1, h2, h3, h4, h5⟩ := ruIs_all hR
   have hpl := preR_len hR
   have m1 := fun s => dbytes_own s r.src hr.src h1
   have m2 := fun s => dbytes_ans s r.tgt hr.tgt
   have e2 : bytesL r.tgt = putL r.tgt := by unfold bytesL; rw [h2]; rfl
   rw [e2] at m2
   have b1 := fun s => dbandbytes_ans s (r.any, r.lo, r.hi)
   unfold bandV at b1
   have n1 := fun s => dput_sl s r.eq.length (by omega)
   have hw := wrapUN (n := r.eq.length) (by omega)
   have hl0 := headR_len hR
   have e3 : byv (putL r.src) ++ byv (putL r.tgt) ++ byv (putBd (r.any, r.lo, r.hi)) ++ byv (putN r.eq.length) = byv (preR r 0) := by
    rw [preR_zero, headR]; simp only [byv_append, List.append_assoc]
   have e4 : (putL r.src).length + (putL r.tgt).length + (putBd (r.any, r.lo, r.hi)).length + (putN r.eq.length).length = (preR r 0).length := by
    rw [preR_zero, headR]; simp only [List.length_append]; omega
   have hp0 := hpl 0 (Nat.zero_le _)
   rw [← e4] at hp0
   have q1 : (putL r.src).length + (putL r.tgt).length ≤ 4294967296 := by omega
   have q2 : (putL r.src).length + (putL r.tgt).length + (putBd (r.any, r.lo, r.hi)).length ≤ 4294967296 := by omega
   have q3 : (putL r.src).length + (putL r.tgt).length + (putBd (r.any, r.lo, r.hi)).length + (putN r.eq.length).length ≤ 4294967296 := by omega
   refine Ans.of_run' t20 (fun hbel _ => ?_)
   unfold ruV at hi ⊢
   simp -implicitDefEqProofs only [c20, r20, go_sem]
   refine CO.intro (hi _) ?_
   rw [hR]
   simp -implicitDefEqProofs only [go_sem]
   refine CD.intro (m1 _) ?_
   simp -implicitDefEqProofs only [go_sem]
   refine CD.intro (m2 _) ?_
   simp -implicitDefEqProofs only [go_sem, g0, s0, byv_len, byv_all', bc, q1, List.length_append]
   refine CD.intro (b1 _) ?_
   simp -implicitDefEqProofs only [go_sem, g0, s0, byv_len, byv_all', bc, q1, q2, txs_len, hw, List.length_append]
   refine CO.intro (n1 _) ?_
   simp -implicitDefEqProofs only [go_sem, g0, s0, byv_len, byv_all', bc, q1, q2, q3, txs_len, hw, List.length_append]
   refine Go.Ab.L.count r.eq.length (fun i => mkE 42 [(1, .rp [.sl 3 (mvs3 r.src), .sl 3 (mvs3 r.tgt), Bo r.any, Fl r.lo, Fl r.hi, .sl 1 (txs r.eq)]), (3, .osl σ.length (preR r i).length), (4, I i)]) (fun i => σ ++ [.row 1 (byv (preR r i))]) ?_ ?_ (by rw [← e4]; rfl) (by rw [← e3])
   · intro i hi J hJ
     have hx := txs_get r.eq i hi
     have hs := h5 r.eq[i] (List.getElem_mem hi)
     have hp := hpl (i + 1) (by omega)
     rw [preR_succ r i hi] at hJ hp
     generalize r.eq[i] = s at hx hs hJ hp
     generalize preR r i = pre at hJ hp ⊢
     have hin := wrap_succ (i := i) (by omega)
     rw [List.length_append] at hp hJ
     have l1 : pre.length + (txtB s).length ≤ 4294967296 := by omega
     simp -implicitDefEqProofs only [mkE, go_sem, txs_len, nat_lt hi, dec_lt hi, hx]
     refine CO.intro (dputtext_ans _ s (by omega)) ?_
     simp -implicitDefEqProofs only [go_sem, g0, s0, byv_len, byv_all', bc, l1, hin]
     simp only [byv_append] at hJ
     exact hJ
   · intro J
     have d0 : decide ((r.eq.length : Int) < r.eq.length) = false := by simp
     simp -implicitDefEqProofs only [mkE, go_sem, txs_len, d0, g0, s0, byv_len, preR_all]
     exact Fini.trim2 (σ' := σ) (ex := [_]) rfl rfl (Nat.le_refl _) (bel_byv _ _) hbel
end
end Go.Proofs.YtmkmhhjkdaklbaaGreat
namespace Go.Proofs.YtmkmhhjkdaklbaaGreat
open Go Go.Ab Go.Cod
set_option maxRecDepth 100000
theorem ruR_eq (b : Byt) : ruR b = (listR b).bind fun p1 => (listR p1.2).bind fun p2 => (bandR p2.2).bind fun p3 => (rowR 4 (textR 12) p3.2).bind fun p4 =>
  if ruIs (mkRu (p1.1, p2.1, p3.1, p4.1)) then some (mkRu (p1.1, p2.1, p3.1, p4.1), p4.2) else none := by
 simp only [ruR, ruR0, onlyR, dressR, seqR]
 cases listR b with
 | none => rfl
 | some p1 =>
 simp only [Option.bind_some]
 cases listR p1.2 with
 | none => rfl
 | some p2 =>
 simp only [Option.bind_some]
 cases bandR p2.2 with
 | none => rfl
 | some p3 =>
 simp only [Option.bind_some]
 cases rowR 4 (textR 12) p3.2 with
 | none => rfl
 | some p4 => rfl
theorem listB_small {M : List Mtr} (h : listB M = true) : ∀ x ∈ M, x.2.1.size ≤ 100000 := fun x hx => by have := (listB_at h).2 x hx; omega
section
variable (σ : St)
set_option maxHeartbeats 4000000 in
theorem druread_ans0 (b : Byt) (hb : b.length ≤ 50000) : Ans Tryz.prog 18 [.sl 1 (byv b)] σ (readV (ruR b) b ruV noRuV) σ := by
 have hR := ruR_eq b
 have r1 := fun s => dread_ans s b hb
 cases h1 : listR b with
 | none =>
   rw [h1] at hR
   have hR : ruR b = none := hR
   simp only [readV_none h1] at r1
   refine Ans.of_run' t18 (fun hbel _ => ?_)
   rw [hR]
   simp -implicitDefEqProofs only [c18, r18, go_sem, List.append_assoc, List.length_append, g0, g1, s0, s1]
   refine CO.intro (r1 _) ?_
   simp -implicitDefEqProofs only [go_sem, g0, g1, s0, s1]
   exact Fini.trim2 (σ' := σ) (by simp -implicitDefEqProofs only [go_sem, resA, allSome, rvA, oneOf, g0] <;> rfl) rfl (Nat.le_refl _) (by unfold readV; exact bel_tup3 (bel_noRuV _)) hbel
 | some p1 =>
 obtain ⟨m1, t1⟩ := p1
 rw [h1] at hR
 simp only [Option.bind_some] at hR
 simp only [readV_some h1] at r1
 obtain ⟨d1, l1, k1⟩ := ends_list.drop (b := b) (a := 0) (Nat.zero_le _) h1
 have v1 := (listB_fits.bwd b m1 t1 h1).1
 have r2 := fun s => dread_ans s t1 (by omega)
 have le1 : (((b.length - t1.length : Nat) : Int) ≤ (b.length : Nat)) = True := eq_true (by omega)
 cases h2 : listR t1 with
 | none =>
   rw [h2] at hR
   have hR : ruR b = none := hR
   simp only [readV_none h2] at r2
   refine Ans.of_run' t18 (fun hbel _ => ?_)
   rw [hR]
   simp -implicitDefEqProofs only [c18, r18, go_sem, List.append_assoc, List.length_append, g0, g1, s0, s1]
   refine CO.intro (r1 _) ?_
   simp -implicitDefEqProofs only [go_sem, g0, g1, s0, s1, byv_len, le1, byv_take, byv_drop, d1, List.take_length, Int.le_refl]
   refine CO.intro (r2 _) ?_
   simp -implicitDefEqProofs only [go_sem, g0, g1, s0, s1]
   exact Fini.trim2 (σ' := σ) (by simp -implicitDefEqProofs only [go_sem, resA, allSome, rvA, oneOf, g0] <;> rfl) rfl (Nat.le_refl _) (by unfold readV; exact bel_tup3 (bel_noRuV _)) hbel
 | some p2 =>
 obtain ⟨m2, t2⟩ := p2
 rw [h2] at hR
 simp only [Option.bind_some] at hR
 simp only [readV_some h2] at r2
 obtain ⟨d2, l2, k2⟩ := ends_list.drop (b := b) (a := b.length - t1.length) (by omega) (by rw [d1]; exact h2)
 have v2 := (listB_fits.bwd t1 m2 t2 h2).1
 have kk2 : t2.length ≤ t1.length := (listB_fits.rest h2).1
 have r3 := fun s => dreadband_ans s t2 (by omega)
 have a2 := addN (a := b.length - t1.length) (b := t1.length - t2.length) (by omega)
 rw [show b.length - t1.length + (t1.length - t2.length) = b.length - t2.length by omega] at a2
 have le2 : (((b.length - t2.length : Nat) : Int) ≤ (b.length : Nat)) = True := eq_true (by omega)
 cases h3 : bandR t2 with
 | none =>
   rw [h3] at hR
   have hR : ruR b = none := hR
   simp only [readV_none h3] at r3
   unfold bandV at r3
   refine Ans.of_run' t18 (fun hbel _ => ?_)
   rw [hR]
   simp -implicitDefEqProofs only [c18, r18, go_sem, List.append_assoc, List.length_append, g0, g1, s0, s1]
   refine CO.intro (r1 _) ?_
   simp -implicitDefEqProofs only [go_sem, g0, g1, s0, s1, byv_len, le1, byv_take, byv_drop, d1, List.take_length, Int.le_refl]
   refine CO.intro (r2 _) ?_
   simp -implicitDefEqProofs only [go_sem, g0, g1, s0, s1, byv_len, a2, le2, byv_take, byv_drop, d2, List.take_length, Int.le_refl]
   refine CO.intro (r3 _) ?_
   simp -implicitDefEqProofs only [go_sem, g0, g1, s0, s1]
   exact Fini.trim2 (σ' := σ) (by simp -implicitDefEqProofs only [go_sem, resA, allSome, rvA, oneOf, g0] <;> rfl) rfl (Nat.le_refl _) (by unfold readV; exact bel_tup3 (bel_noRuV _)) hbel
 | some p3 =>
 obtain ⟨⟨any, lo, hi⟩, t3⟩ := p3
 rw [h3] at hR
 simp only [Option.bind_some] at hR
 simp only [readV_some h3] at r3
 unfold bandV at r3
 obtain ⟨d3, l3, k3⟩ := ends_band.drop (b := b) (a := b.length - t2.length) (by omega) (by rw [d2]; exact h3)
 have kk3 : t3.length ≤ t2.length := (band_fits.rest h3).1
 have r4 := fun s => dget_ans s t3 (by omega)
 have a3 := addN (a := b.length - t2.length) (b := t2.length - t3.length) (by omega)
 rw [show b.length - t2.length + (t2.length - t3.length) = b.length - t3.length by omega] at a3
 have le3 : (((b.length - t3.length : Nat) : Int) ≤ (b.length : Nat)) = True := eq_true (by omega)
 refine Ans.of_run' t18 (fun hbel _ => ?_)
 simp -implicitDefEqProofs only [c18, r18, go_sem, List.append_assoc, List.length_append, g0, g1, s0, s1]
 refine CO.intro (r1 _) ?_
 simp -implicitDefEqProofs only [go_sem, g0, g1, s0, s1, byv_len, le1, byv_take, byv_drop, d1, List.take_length, Int.le_refl]
 refine CO.intro (r2 _) ?_
 simp -implicitDefEqProofs only [go_sem, g0, g1, s0, s1, byv_len, a2, le2, byv_take, byv_drop, d2, List.take_length, Int.le_refl]
 refine CO.intro (r3 _) ?_
 simp -implicitDefEqProofs only [go_sem, g0, g1, s0, s1, byv_len, a3, le3, byv_take, byv_drop, d3, List.take_length, Int.le_refl]
 refine CO.intro (r4 _) ?_
 cases hg : getN 0 t3 with
 | none =>
   have hN : rowR 4 (textR 12) t3 = none := by simp only [rowR, numR, hg, Option.bind_none]
   rw [hN] at hR
   have hR : ruR b = none := hR
   rw [getV_none hg, hR]
   simp -implicitDefEqProofs only [go_sem, g0, g1, s0, s1]
   exact Fini.trim2 (σ' := σ) (by simp -implicitDefEqProofs only [go_sem, resA, allSome, rvA, oneOf, g0] <;> rfl) rfl (Nat.le_refl _) (by unfold readV; exact bel_tup3 (bel_noRuV _)) hbel
 | some p4 =>
 obtain ⟨n, t4⟩ := p4
 rw [getV_some hg]
 have e4 : decide ((4 : Int) < n) = decide (4 < n) := decNN 4 n
 by_cases h4 : 4 < n
 · have hN : rowR 4 (textR 12) t3 = none := by simp only [rowR, numR, hg, Option.bind_some, show ¬ n ≤ 4 by omega, if_false, Option.bind_none]
   rw [hN] at hR
   have hR : ruR b = none := hR
   rw [hR]
   simp -implicitDefEqProofs only [go_sem, g0, g1, s0, s1, e4, decide_eq_true h4]
   exact Fini.trim2 (σ' := σ) (by simp -implicitDefEqProofs only [go_sem, resA, allSome, rvA, oneOf, g0] <;> rfl) rfl (Nat.le_refl _) (by unfold readV; exact bel_tup3 (bel_noRuV _)) hbel
 · have hN : numR 4 t3 = some (n, t4) := by simp only [numR, hg, Option.bind_some, show n ≤ 4 by omega, if_true]
   obtain ⟨d4, l4, k4⟩ := (ends_num 4).drop (b := b) (a := b.length - t3.length) (by omega) (by rw [d3]; exact hN)
   have kk4 : t4.length < t3.length := getN_len hg
   have hrow : rowR 4 (textR 12) t3 = manyR (textR 12) n t4 := by simp only [rowR, hN, Option.bind_some]
   rw [hrow] at hR
   have a4 := addN (a := b.length - t3.length) (b := t3.length - t4.length) (by omega)
   rw [show b.length - t3.length + (t3.length - t4.length) = b.length - t4.length by omega] at a4
   have hwn := wrapI (a := n) (by omega)
   simp -implicitDefEqProofs only [go_sem, e4, decide_eq_false h4, a4]
   refine Go.Ab.L.intro (α := { p : Nat × List ByteArray × Nat // p.1 ≤ n ∧ p.2.1.length = p.1 ∧ p.2.2 ≤ b.length ∧ (∀ x ∈ p.2.1, x.size ≤ 12) ∧ manyR (textR 12) n t4 = (manyR (textR 12) (n - p.1) (b.drop p.2.2)).map fun r => (p.2.1 ++ r.1, r.2) }) (fun p => n - p.1.1)
    (fun p => mkE 112 [(0, .sl 1 (byv b)), (2, .ptr σ.length 0), (5, .rp [.nils, .nils, Bo false, Fl 0, Fl 0, .nils]), (6, .ptr (σ.length + 1) 0), (8, I p.1.2.2), (12, UN n), (13, I p.1.1)])
    (fun p => σ ++ Z6 :: .box [mlV m1, mlV m2, Bo any, Fl lo, Fl hi, txC (σ.length + 2) p.1.2.1] :: txS p.1.2.1) ?_ ⟨(0, [], b.length - t4.length), Nat.zero_le _, rfl, Nat.sub_le _ _, by simp, by rw [d4]; cases manyR (textR 12) n t4 <;> simp⟩ rfl rfl
   rintro ⟨⟨i, l, at_⟩, hi', hll, hat, hsz, hm⟩ J hJ
   simp only at hi' hll hat hsz hm hJ
   by_cases hlt : i < n
   · obtain ⟨m, hmm⟩ : ∃ m, n - i = m + 1 := ⟨n - i - 1, by omega⟩
     rw [hmm, many_succ] at hm
     have d0 : decide ((i : Int) < n) = true := dec_lt hlt
     have leA : (((at_ : Nat) : Int) ≤ (b.length : Nat)) = True := eq_true (by omega)
     have hst : ∀ ex : St, ex = ex := fun _ => rfl
     simp -implicitDefEqProofs only [mkE, go_sem, hwn, d0, byv_len, leA, byv_take, byv_drop, List.take_length, Int.le_refl]
     refine CO.intro (dgettext_ans _ (b.drop at_) 12 (by rw [List.length_drop]; omega) (by decide)) ?_
     cases ht : textR 12 (b.drop at_) with
     | none =>
       rw [ht] at hm
       simp only [Option.bind_none, Option.map_none] at hm
       rw [hm] at hR
       have hR : ruR b = none := hR
       rw [textV_none ht, hR]
       simp -implicitDefEqProofs only [go_sem, g0, g1, s0, s1]
       exact Fini.trim2 (σ' := σ) (by simp -implicitDefEqProofs only [go_sem, resA, allSome, rvA, oneOf, g0] <;> rfl) rfl (Nat.le_refl _) (by unfold readV; exact bel_tup3 (bel_noRuV _)) hbel
     | some x =>
       obtain ⟨s, u⟩ := x
       obtain ⟨z1, z2, z3⟩ := (ends_text 12).drop (b := b) (a := at_) hat ht
       have hs := ((text_fits (most := 12) (by decide)).bwd _ _ _ ht).1
       have aa := addN (a := at_) (b := (b.drop at_).length - u.length) (by rw [List.length_drop]; omega)
       rw [show at_ + ((b.drop at_).length - u.length) = b.length - u.length by rw [List.length_drop]; omega] at aa
       have hin := wrap_succ (i := i) (by omega)
       rw [ht] at hm
       simp only [Option.bind_some] at hm
       have hgo := hJ ⟨(i + 1, l ++ [s], b.length - u.length), by simp only; omega, by simp [hll], by simp only; omega, (by
        intro y hy
        simp only [List.mem_append, List.mem_singleton] at hy
        rcases hy with hy | rfl
        · exact hsz y hy
        · exact hs), (by
        simp only
        rw [hm, z1, show n - (i + 1) = m by omega]
        cases manyR (textR 12) m u <;> simp)⟩ (by simp only; omega)
       simp only at hgo
       rw [txC_of _ (emp_snoc l s), txS_of (emp_snoc l s), txs_snoc] at hgo
       rw [List.length_append, List.length_singleton] at hgo
       rw [textV_some ht]
       cases hem : l.isEmpty with
       | true =>
         have hle : l = [] := List.isEmpty_iff.1 hem
         subst hle
         unfold txC txS
         simp only [List.isEmpty_nil, if_true]
         have p32 : ((1 : Nat) ≤ 2 ^ 32) = True := eq_true (by decide)
         simp -implicitDefEqProofs only [go_sem, g0, g1, s0, s1, aa, hin, p32, List.length_append, List.append_assoc, List.length_cons, List.length_nil]
         exact hgo
       | false =>
         rw [txC_of _ hem, txS_of hem]
         have hle : l.length + 1 ≤ 4294967296 := by omega
         simp -implicitDefEqProofs only [go_sem, g0, g1, g2, s0, s1, s2, aa, hin, txs_len, hle, List.length_singleton]
         exact hgo
   · have hie : i = n := by omega
     subst hie
     have d0 : decide ((i : Int) < i) = false := by simp
     rw [Nat.sub_self] at hm
     simp only [manyR, Option.map_some, List.append_nil] at hm
     rw [hm] at hR
     simp only [Option.bind_some] at hR
     have hsm : RSm (mkRu (m1, m2, (any, lo, hi), l)) := ⟨listB_small v1, listB_small v2, fun s hs => by have := hsz s hs; omega⟩
     have hru := fun s => druis_ans s (mkRu (m1, m2, (any, lo, hi), l)) hsm
     have hlen : b.length - (b.drop at_).length = at_ := by rw [List.length_drop]; omega
     have fin : (ruIs (mkRu (m1, m2, (any, lo, hi), l)) = false → ruR b = none) ∧ (ruIs (mkRu (m1, m2, (any, lo, hi), l)) = true → ruR b = some (mkRu (m1, m2, (any, lo, hi), l), b.drop at_)) := by
      refine ⟨fun h => ?_, fun h => ?_⟩
      · rw [hR, h]; rfl
      · rw [hR, h]; rfl
     generalize ruIs (mkRu (m1, m2, (any, lo, hi), l)) = ok at hru fin
     cases hem : l.isEmpty with
     | true =>
       have hle : l = [] := List.isEmpty_iff.1 hem
       subst hle
       unfold txC txS
       simp only [List.isEmpty_nil, if_true]
       simp -implicitDefEqProofs only [mkE, go_sem, hwn, d0, txs_nil, g0, g1, g2, s0, s1, s2]
       refine CO.intro (hru _) ?_
       cases ok with
       | false =>
         rw [fin.1 rfl]
         simp -implicitDefEqProofs only [go_sem, g0, g1, g2, s0, s1, s2]
         exact Fini.trim2 (σ' := σ) (by simp -implicitDefEqProofs only [go_sem, resA, allSome, rvA, oneOf, g0] <;> rfl) rfl (Nat.le_refl _) (by unfold readV; exact bel_tup3 (bel_noRuV _)) hbel
       | true =>
         rw [readV_some (fin.2 rfl), hlen]
         simp -implicitDefEqProofs only [go_sem, g0, g1, g2, s0, s1, s2]
         exact Fini.trim2 (σ' := σ) (by simp -implicitDefEqProofs only [go_sem, resA, allSome, rvA, oneOf, g0] <;> rfl) rfl (Nat.le_refl _) (bel_tup3 (bel_ruV _ _)) hbel
     | false =>
       have ne32 : (σ.length + 2 ≠ σ.length + 1) = True := eq_true (by omega)
       rw [txC_of _ hem, txS_of hem]
       simp -implicitDefEqProofs only [mkE, go_sem, hwn, d0, txs_len, ne32, g0, g1, g2, s0, s1, s2]
       refine CO.intro (hru _) ?_
       cases ok with
       | false =>
         rw [fin.1 rfl]
         simp -implicitDefEqProofs only [go_sem, g0, g1, g2, s0, s1, s2]
         exact Fini.trim2 (σ' := σ) (by simp -implicitDefEqProofs only [go_sem, resA, allSome, rvA, oneOf, g0] <;> rfl) rfl (Nat.le_refl _) (by unfold readV; exact bel_tup3 (bel_noRuV _)) hbel
       | true =>
         rw [readV_some (fin.2 rfl), hlen]
         simp -implicitDefEqProofs only [go_sem, g0, g1, g2, s0, s1, s2]
         exact Fini.trim2 (σ' := σ) (by simp -implicitDefEqProofs only [go_sem, resA, allSome, rvA, oneOf, g0] <;> rfl) rfl (Nat.le_refl _) (bel_tup3 (bel_ruV _ _)) hbel
theorem druread_ans (b : Byt) (hb : b.length ≤ 50000) : Ans Tryz.prog 18 [.sl 1 (byv b)] σ (readV (ruR b) b ruV (ruV noRu)) σ := by
 refine (druread_ans0 σ b hb).subR ?_
 unfold readV
 cases ruR b with
 | none => exact .tup (.cons noRu_sub (.refl _))
 | some p => exact .refl _
end
end Go.Proofs.YtmkmhhjkdaklbaaGreat
namespace Go.Proofs.YtmkmhhjkdaklbaaGreat
open Go Go.Ab Go.Cod
set_option maxRecDepth 100000
def eqT (a b : ByteArray) : Bool := a.toList == b.toList
def eqBf (a b : Nat) : Bool := ((bitsF a : Nat) : Int) == ((bitsF b : Nat) : Int)
def sameBd (x y : Bnd) : Bool := (x.1 == y.1) && (eqBf x.2.1 y.2.1 && eqBf x.2.2 y.2.2)
def eqTs (a b : List ByteArray) : Bool := (List.range a.length).all fun i => eqT (a.getD i ⟨#[]⟩) (b.getD i ⟨#[]⟩)
def alikeB (x y : RuM) : Bool := decide (x.eq.length = y.eq.length) && (sameM x.src y.src && (sameM x.tgt y.tgt && (sameBd (x.any, x.lo, x.hi) (y.any, y.lo, y.hi) && eqTs x.eq y.eq)))
theorem eqTs_refl (a : List ByteArray) : eqTs a a = true := by simp [eqTs, eqT]
theorem sameBd_refl (x : Bnd) : sameBd x x = true := by simp [sameBd, eqBf]
theorem alikeB_refl (x : RuM) : alikeB x x = true := by simp [alikeB, sameM_refl, sameBd_refl, eqTs_refl]
section
variable (σ : St)
theorem sameband_ans (x y : Bnd) : Ans Tryz.prog 78 [bandV x, bandV y] σ (Bo (sameBd x y)) σ := by
 obtain ⟨a, lo, hi⟩ := x
 obtain ⟨c, lo', hi'⟩ := y
 have i1 := fun s => dbits_ans s lo
 have i2 := fun s => dbits_ans s lo'
 have i3 := fun s => dbits_ans s hi
 have i4 := fun s => dbits_ans s hi'
 refine Ans.of_run t78 ?_
 unfold bandV sameBd eqBf
 simp only
 cases h1 : (a == c) with
 | false =>
   simp -implicitDefEqProofs only [c78, r78, go_sem, h1]
   exact Fini.ret rfl
 | true =>
   simp -implicitDefEqProofs only [c78, r78, go_sem, h1]
   refine CD.intro (i1 _) ?_
   simp -implicitDefEqProofs only [go_sem]
   refine CD.intro (i2 _) ?_
   cases h2 : (((bitsF lo : Nat) : Int) == ((bitsF lo' : Nat) : Int)) with
   | false =>
     simp -implicitDefEqProofs only [go_sem, h2]
     exact Fini.ret rfl
   | true =>
     simp -implicitDefEqProofs only [go_sem, h2]
     refine CD.intro (i3 _) ?_
     simp -implicitDefEqProofs only [go_sem]
     refine CD.intro (i4 _) ?_
     simp -implicitDefEqProofs only [go_sem]
     exact Fini.ret rfl
theorem alike_ans (x y : RuM) (h1 : x.src.length ≤ 1000) (h2 : x.tgt.length ≤ 1000) (h3 : x.eq.length ≤ 100000) : Ans Tryz.prog 21 [ruV x, ruV y] σ (Bo (alikeB x y)) σ := by
 have i1 := fun s => samem_ans s x.src y.src h1
 have i2 := fun s => samem_ans s x.tgt y.tgt h2
 have i3 := fun s => sameband_ans s (x.any, x.lo, x.hi) (y.any, y.lo, y.hi)
 unfold bandV at i3
 have e1 : (((x.eq.length : Nat) : Int) != ((y.eq.length : Nat) : Int)) = !decide (x.eq.length = y.eq.length) := by
  rw [bne]
  congr 1
  rw [Bool.eq_iff_iff]
  simp only [beq_iff_eq, decide_eq_true_eq]
  omega
 refine Ans.of_run t21 ?_
 unfold ruV alikeB
 by_cases hl : x.eq.length = y.eq.length
 · have e2 : (((x.eq.length : Nat) : Int) != ((y.eq.length : Nat) : Int)) = false := by rw [e1, decide_eq_true hl]; rfl
   rw [decide_eq_true hl]
   simp -implicitDefEqProofs only [c21, r21, go_sem, txs_len, e2]
   refine CO.intro (i1 _) ?_
   cases sameM x.src y.src with
   | false =>
     simp -implicitDefEqProofs only [go_sem]
     exact Fini.ret rfl
   | true =>
   simp -implicitDefEqProofs only [go_sem]
   refine CO.intro (i2 _) ?_
   cases sameM x.tgt y.tgt with
   | false =>
     simp -implicitDefEqProofs only [go_sem]
     exact Fini.ret rfl
   | true =>
   simp -implicitDefEqProofs only [go_sem]
   refine CO.intro (i3 _) ?_
   cases sameBd (x.any, x.lo, x.hi) (y.any, y.lo, y.hi) with
   | false =>
     simp -implicitDefEqProofs only [go_sem]
     exact Fini.ret rfl
   | true =>
   simp -implicitDefEqProofs only [go_sem, Bool.true_and]
   unfold eqTs
   refine Go.Ab.L.scan x.eq.length (fun i => eqT (x.eq.getD i ⟨#[]⟩) (y.eq.getD i ⟨#[]⟩)) (fun i => mkE 55 [(2, .rp [.sl 3 (mvs3 x.src), .sl 3 (mvs3 x.tgt), Bo x.any, Fl x.lo, Fl x.hi, .sl 1 (txs x.eq)]), (3, .rp [.sl 3 (mvs3 y.src), .sl 3 (mvs3 y.tgt), Bo y.any, Fl y.lo, Fl y.hi, .sl 1 (txs y.eq)]), (5, I i)]) (fun _ => σ) ?_ ?_ rfl rfl
   · intro i hi hp J hJ
     have hx := txs_D x.eq i hi
     have hy := txs_D y.eq i (by omega)
     have hin := wrap_succ (i := i) (by omega)
     have hF : eqT (x.eq.getD i ⟨#[]⟩) (y.eq.getD i ⟨#[]⟩) = false → ((List.range x.eq.length).all fun i => eqT (x.eq.getD i ⟨#[]⟩) (y.eq.getD i ⟨#[]⟩)) = false := fun h => List.all_eq_false.2 ⟨i, List.mem_range.2 hi, by rw [h]; decide⟩
     have n1 := nat_lt hi
     have n2 := nat_lt (show i < y.eq.length by omega)
     simp -implicitDefEqProofs only [mkE, go_sem, txs_len, n1, n2, dec_lt hi, hx, hy]
     cases hb : eqT (x.eq.getD i ⟨#[]⟩) (y.eq.getD i ⟨#[]⟩) with
     | false =>
       rw [hF hb]
       unfold eqT at hb
       simp -implicitDefEqProofs only [go_sem, hb]
       exact Fini.ret rfl
     | true =>
       have hgo := hJ hb
       unfold eqT at hb
       simp -implicitDefEqProofs only [go_sem, hb, hin]
       exact hgo
   · intro hp J
     have hd : decide ((x.eq.length : Int) < x.eq.length) = false := by simp
     simp -implicitDefEqProofs only [mkE, go_sem, txs_len, hd]
     refine Fini.ret' rfl (bo_congr ?_)
     exact (List.all_eq_true.2 fun i hi => hp i (List.mem_range.1 hi)).symm
 · have e2 : (((x.eq.length : Nat) : Int) != ((y.eq.length : Nat) : Int)) = true := by rw [e1, decide_eq_false hl]; rfl
   rw [decide_eq_false hl]
   simp -implicitDefEqProofs only [c21, r21, go_sem, txs_len, e2]
   exact Fini.ret rfl
end
end Go.Proofs.YtmkmhhjkdaklbaaGreat
namespace Go.Proofs.YtmkmhhjkdaklbaaGreat
open Go Go.Ab
set_option maxRecDepth 100000
def c3 : ACode :=
 (.seq (.ops [⟨some 2, none, .prim (.boxr (.tmp 0))⟩,
 ⟨some 4, none, .prim (.mov (.const (.bool false)))⟩])
 (.seq (.seq (.ops [⟨some 11, none, .prim (.load 6 true (.tmp 2))⟩,
 ⟨some 12, none, .call (.func 15) [(.tmp 11), (.const (.int .i64 300))]⟩,
 ⟨some 13, none, .prim (.bin false .gtr (.tmp 12) (.const (.int .i64 300)))⟩,
 ⟨some 14, none, .prim (.mov (.tmp 13))⟩,
 ⟨some 15, (some (14, false)), .prim (.mov (.tmp 1))⟩,
 ⟨some 16, (some (14, false)), .prim (.lenv (.tmp 15))⟩,
 ⟨some 17, (some (14, false)), .prim (.bin false .gtr (.tmp 16) (.const (.int .i64 600)))⟩,
 ⟨some 18, none, .prim (.pick (.tmp 14) (.const (.bool true)) (.tmp 17))⟩])
 (.cond (.tmp 18)
 (.seq (.ops [⟨some 19, none, .call (.func 16) []⟩,
 ⟨some 4, none, .prim (.mov (.tmp 19))⟩])
 .ret)
 .skip))
 (.seq (.ops [⟨some 21, none, .prim (.mov (.tmp 1))⟩,
 ⟨some 22, none, .call (.func 17) [(.tmp 21)]⟩,
 ⟨some 20, none, .prim (.mov (.tmp 22))⟩,
 ⟨some 23, none, .prim (.extr 0 (.tmp 20))⟩,
 ⟨some 24, none, .prim (.extr 1 (.tmp 20))⟩,
 ⟨some 25, none, .prim (.extr 2 (.tmp 20))⟩,
 ⟨some 5, none, .fresh 6 5 (.tmp 23)⟩,
 ⟨some 6, none, .prim (.mov (.tmp 24))⟩,
 ⟨some 7, none, .prim (.mov (.tmp 25))⟩])
 (.seq (.ops [⟨some 27, none, .prim (.mov (.tmp 1))⟩,
 ⟨some 28, none, .call (.func 18) [(.tmp 27)]⟩,
 ⟨some 26, none, .prim (.mov (.tmp 28))⟩,
 ⟨some 29, none, .prim (.extr 0 (.tmp 26))⟩,
 ⟨some 30, none, .prim (.extr 1 (.tmp 26))⟩,
 ⟨some 31, none, .prim (.extr 2 (.tmp 26))⟩,
 ⟨some 8, none, .fresh 6 8 (.tmp 29)⟩,
 ⟨some 9, none, .prim (.mov (.tmp 30))⟩,
 ⟨some 10, none, .prim (.mov (.tmp 31))⟩])
 (.seq (.draw [⟨⟨some 32, none, .prim (.load 6 true (.tmp 2))⟩, [], false, 0, 0⟩,
 ⟨⟨some 33, none, .call (.func 19) [(.tmp 32)]⟩, [0], true, 0, 0⟩,
 ⟨⟨some 34, none, .prim (.b2s (.tmp 33))⟩, [0, 1], false, 1, 2⟩,
 ⟨⟨some 35, none, .prim (.load 6 true (.tmp 2))⟩, [], false, 0, 1⟩,
 ⟨⟨some 36, none, .call (.func 20) [(.tmp 35)]⟩, [0, 1, 3], true, 0, 0⟩,
 ⟨⟨some 37, none, .prim (.b2s (.tmp 36))⟩, [0, 1, 3, 4], false, 2, 2⟩,
 ⟨⟨some 38, none, .prim (.bin false .eql (.tmp 34) (.tmp 37))⟩, (List.range 6), false, 2, 2⟩,
 ⟨⟨some 39, none, .prim (.mov (.tmp 38))⟩, (List.range 7), false, 2, 2⟩,
 ⟨⟨some 40, (some (39, true)), .prim (.mov (.tmp 7))⟩, (List.range 8), false, 2, 2⟩,
 ⟨⟨some 41, (some (39, true)), .prim (.mov (.tmp 10))⟩, (List.range 8), false, 2, 2⟩,
 ⟨⟨some 42, (some (39, true)), .prim (.bin true .eql (.tmp 40) (.tmp 41))⟩, (List.range 10), false, 2, 2⟩,
 ⟨⟨some 43, none, .prim (.pick (.tmp 39) (.tmp 42) (.const (.bool false)))⟩, (List.range 11), false, 2, 2⟩,
 ⟨⟨some 44, none, .prim (.mov (.tmp 43))⟩, (List.range 12), false, 2, 2⟩,
 ⟨⟨some 45, (some (44, true)), .prim (.mov (.tmp 6))⟩, (List.range 13), false, 2, 2⟩,
 ⟨⟨some 46, (some (44, true)), .prim (.mov (.tmp 9))⟩, (List.range 13), false, 2, 2⟩,
 ⟨⟨some 47, (some (44, true)), .prim (.bin false .eql (.tmp 45) (.tmp 46))⟩, (List.range 15), false, 2, 2⟩,
 ⟨⟨some 48, none, .prim (.pick (.tmp 44) (.tmp 47) (.const (.bool false)))⟩, (List.range 16), false, 2, 2⟩,
 ⟨⟨some 49, none, .prim (.mov (.tmp 48))⟩, (List.range 17), false, 2, 2⟩,
 ⟨⟨some 50, (some (49, true)), .prim (.load 6 true (.tmp 5))⟩, (List.range 18), false, 2, 2⟩,
 ⟨⟨some 51, (some (49, true)), .prim (.load 6 true (.tmp 8))⟩, (List.range 18), false, 2, 2⟩,
 ⟨⟨some 52, (some (49, true)), .call (.func 21) [(.tmp 50), (.tmp 51)]⟩, (List.range 20), true, 0, 0⟩,
 ⟨⟨some 53, none, .prim (.pick (.tmp 49) (.tmp 52) (.const (.bool false)))⟩, (List.range 21), false, 3, 3⟩,
 ⟨⟨some 54, none, .prim (.mov (.tmp 53))⟩, (List.range 22), false, 3, 3⟩,
 ⟨⟨some 55, (some (54, true)), .call (.func 16) []⟩, (List.range 23), true, 0, 0⟩,
 ⟨⟨some 56, none, .prim (.pick (.tmp 54) (.tmp 55) (.const (.bool false)))⟩, (List.range 24), false, 4, 4⟩,
 ⟨⟨some 4, none, .prim (.mov (.tmp 56))⟩, (List.range 25), false, 4, 4⟩])
 .ret)))))
def o3 : List Tmp := []
def r3 : List RV := [.tmp 4]
theorem t3 : Text Tryz.prog 3 o3 c3 r3 57 := ⟨⟨Tryz.f3, _, by kernel_rfl, by kernel_rfl, rfl, by kernel_rfl, by kernel_rfl, rfl⟩, by kernel_rfl⟩
def c4 : ACode :=
 (.seq (.ops [⟨some 4, none, .prim (.boxr (.tmp 0))⟩,
 ⟨some 5, none, .prim (.boxr (.tmp 1))⟩,
 ⟨some 8, none, .prim (.mov (.const (.bool false)))⟩])
 (.seq (.seq (.ops [⟨some 18, none, .prim (.mov (.tmp 2))⟩,
 ⟨some 19, none, .prim (.lenv (.tmp 18))⟩,
 ⟨some 20, none, .prim (.bin false .gtr (.tmp 19) (.const (.int .i64 300)))⟩])
 (.cond (.tmp 20)
 (.seq (.ops [⟨some 21, none, .call (.func 16) []⟩,
 ⟨some 8, none, .prim (.mov (.tmp 21))⟩])
 .ret)
 .skip))
 (.seq (.draw [⟨⟨some 22, none, .prim (.load 6 true (.tmp 4))⟩, [], false, 0, 0⟩,
 ⟨⟨some 23, none, .call (.func 22) [(.tmp 22)]⟩, [0], true, 0, 0⟩,
 ⟨⟨some 24, none, .prim (.load 6 true (.tmp 5))⟩, [], false, 0, 1⟩,
 ⟨⟨some 25, none, .call (.func 22) [(.tmp 24)]⟩, [0, 1, 2], true, 0, 0⟩,
 ⟨⟨some 9, none, .flo 6⟩, [], false, 0, 2⟩,
 ⟨⟨some 10, none, .flo 6⟩, [], false, 0, 2⟩,
 ⟨⟨some 9, none, .adopt false 9 6 (.tmp 23)⟩, (List.range 6), true, 0, 0⟩,
 ⟨⟨some 10, none, .adopt false 10 6 (.tmp 25)⟩, (List.range 7), true, 0, 0⟩])
 (.seq (.ops [⟨some 26, none, .prim (.load 6 true (.tmp 9))⟩,
 ⟨some 27, none, .call (.func 19) [(.tmp 26)]⟩,
 ⟨some 11, none, .prim (.mov (.tmp 27))⟩])
 (.seq (.ops [⟨some 29, none, .prim (.mov (.tmp 11))⟩,
 ⟨some 30, none, .prim (.app 1 (.const (.slice none 0 0)) (.tmp 29))⟩,
 ⟨some 31, none, .prim (.mov (.tmp 2))⟩,
 ⟨some 32, none, .prim (.app 1 (.tmp 30) (.tmp 31))⟩,
 ⟨some 33, none, .call (.func 17) [(.tmp 32)]⟩,
 ⟨some 28, none, .prim (.mov (.tmp 33))⟩,
 ⟨some 34, none, .prim (.extr 0 (.tmp 28))⟩,
 ⟨some 35, none, .prim (.extr 1 (.tmp 28))⟩,
 ⟨some 36, none, .prim (.extr 2 (.tmp 28))⟩,
 ⟨some 12, none, .fresh 6 12 (.tmp 34)⟩,
 ⟨some 13, none, .prim (.mov (.tmp 35))⟩,
 ⟨some 14, none, .prim (.mov (.tmp 36))⟩])
 (.seq (.seq (.ops [⟨some 37, none, .prim (.mov (.tmp 11))⟩,
 ⟨some 38, none, .prim (.lenv (.tmp 37))⟩,
 ⟨some 39, none, .prim (.bin false .lss (.tmp 38) (.const (.int .i64 1)))⟩,
 ⟨some 40, none, .prim (.mov (.tmp 39))⟩,
 ⟨some 41, (some (40, false)), .prim (.mov (.tmp 14))⟩,
 ⟨some 42, (some (40, false)), .prim (.un .not (.tmp 41))⟩,
 ⟨some 43, none, .prim (.pick (.tmp 40) (.const (.bool true)) (.tmp 42))⟩,
 ⟨some 44, none, .prim (.mov (.tmp 43))⟩,
 ⟨some 45, (some (44, false)), .prim (.mov (.tmp 13))⟩,
 ⟨some 46, (some (44, false)), .prim (.mov (.tmp 11))⟩,
 ⟨some 47, (some (44, false)), .prim (.lenv (.tmp 46))⟩,
 ⟨some 48, (some (44, false)), .prim (.bin false .neq (.tmp 45) (.tmp 47))⟩,
 ⟨some 49, none, .prim (.pick (.tmp 44) (.const (.bool true)) (.tmp 48))⟩,
 ⟨some 50, none, .prim (.mov (.tmp 49))⟩,
 ⟨some 51, (some (50, false)), .prim (.load 6 true (.tmp 12))⟩,
 ⟨some 52, (some (50, false)), .prim (.load 6 true (.tmp 9))⟩,
 ⟨some 53, (some (50, false)), .call (.func 21) [(.tmp 51), (.tmp 52)]⟩,
 ⟨some 54, (some (50, false)), .prim (.un .not (.tmp 53))⟩,
 ⟨some 55, none, .prim (.pick (.tmp 50) (.const (.bool true)) (.tmp 54))⟩,
 ⟨some 56, none, .prim (.mov (.tmp 55))⟩,
 ⟨some 57, (some (56, false)), .prim (.load 6 true (.tmp 9))⟩,
 ⟨some 58, (some (56, false)), .prim (.load 6 true (.tmp 9))⟩,
 ⟨some 59, (some (56, false)), .call (.func 23) [(.tmp 57), (.tmp 58)]⟩,
 ⟨some 60, (some (56, false)), .prim (.un .not (.tmp 59))⟩,
 ⟨some 61, none, .prim (.pick (.tmp 56) (.const (.bool true)) (.tmp 60))⟩,
 ⟨some 62, none, .prim (.mov (.tmp 61))⟩,
 ⟨some 63, (some (62, false)), .prim (.load 6 true (.tmp 12))⟩,
 ⟨some 64, (some (62, false)), .prim (.load 6 true (.tmp 9))⟩,
 ⟨some 65, (some (62, false)), .call (.func 23) [(.tmp 63), (.tmp 64)]⟩,
 ⟨some 66, (some (62, false)), .prim (.un .not (.tmp 65))⟩,
 ⟨some 67, none, .prim (.pick (.tmp 62) (.const (.bool true)) (.tmp 66))⟩])
 (.cond (.tmp 67)
 (.seq (.ops [⟨some 8, none, .prim (.mov (.const (.bool false)))⟩])
 .ret)
 .skip))
 (.seq (.seq (.ops [⟨some 68, none, .prim (.mov (.tmp 3))⟩,
 ⟨some 69, none, .prim (.bin false .lss (.tmp 68) (.const (.int .i64 0)))⟩])
 (.cond (.tmp 69)
 (.ops [⟨some 3, none, .prim (.mov (.const (.int .i64 0)))⟩])
 .skip))
 (.seq (.ops [⟨some 71, none, .prim (.mov (.tmp 11))⟩,
 ⟨some 72, none, .prim (.mov (.tmp 3))⟩,
 ⟨some 73, none, .prim (.mov (.tmp 11))⟩,
 ⟨some 74, none, .prim (.lenv (.tmp 73))⟩,
 ⟨some 75, none, .prim (.bin false .rem (.tmp 72) (.tmp 74))⟩,
 ⟨some 76, none, .prim (.slcv 1 (.tmp 71) none (some (.tmp 75)))⟩,
 ⟨some 77, none, .call (.func 17) [(.tmp 76)]⟩,
 ⟨some 70, none, .prim (.mov (.tmp 77))⟩,
 ⟨some 78, none, .prim (.extr 0 (.tmp 70))⟩,
 ⟨some 79, none, .prim (.extr 1 (.tmp 70))⟩,
 ⟨some 80, none, .prim (.extr 2 (.tmp 70))⟩,
 ⟨some 15, none, .fresh 6 15 (.tmp 78)⟩,
 ⟨some 16, none, .prim (.mov (.tmp 79))⟩,
 ⟨some 17, none, .prim (.mov (.tmp 80))⟩])
 (.seq (.draw [⟨⟨some 81, none, .prim (.mov (.tmp 17))⟩, [], false, 0, 0⟩,
 ⟨⟨some 82, none, .prim (.un .not (.tmp 81))⟩, [0], false, 0, 0⟩,
 ⟨⟨some 83, none, .prim (.mov (.tmp 82))⟩, [0, 1], false, 0, 0⟩,
 ⟨⟨some 84, (some (83, true)), .prim (.load 6 true (.tmp 9))⟩, [0, 1, 2], false, 0, 0⟩,
 ⟨⟨some 85, (some (83, true)), .prim (.load 6 true (.tmp 10))⟩, [0, 1, 2], false, 0, 0⟩,
 ⟨⟨some 86, (some (83, true)), .call (.func 23) [(.tmp 84), (.tmp 85)]⟩, [0, 1, 2, 3, 4], true, 0, 0⟩,
 ⟨⟨some 87, (some (83, true)), .prim (.load 6 true (.tmp 9))⟩, [0, 1, 2], false, 0, 1⟩,
 ⟨⟨some 88, (some (83, true)), .prim (.load 6 true (.tmp 10))⟩, [0, 1, 2], false, 0, 1⟩,
 ⟨⟨some 89, (some (83, true)), .call (.func 21) [(.tmp 87), (.tmp 88)]⟩, (List.range 8), true, 0, 0⟩,
 ⟨⟨some 90, (some (83, true)), .prim (.bin true .eql (.tmp 86) (.tmp 89))⟩, (List.range 9), false, 2, 2⟩,
 ⟨⟨some 91, none, .prim (.pick (.tmp 83) (.tmp 90) (.const (.bool false)))⟩, (List.range 10), false, 2, 2⟩,
 ⟨⟨some 92, none, .prim (.mov (.tmp 91))⟩, (List.range 11), false, 2, 2⟩,
 ⟨⟨some 93, (some (92, true)), .prim (.load 6 true (.tmp 10))⟩, (List.range 12), false, 2, 2⟩,
 ⟨⟨some 94, (some (92, true)), .prim (.load 6 true (.tmp 9))⟩, (List.range 12), false, 2, 2⟩,
 ⟨⟨some 95, (some (92, true)), .call (.func 23) [(.tmp 93), (.tmp 94)]⟩, (List.range 14), true, 0, 0⟩,
 ⟨⟨some 96, (some (92, true)), .prim (.load 6 true (.tmp 9))⟩, (List.range 12), false, 2, 3⟩,
 ⟨⟨some 97, (some (92, true)), .prim (.load 6 true (.tmp 10))⟩, (List.range 12), false, 2, 3⟩,
 ⟨⟨some 98, (some (92, true)), .call (.func 23) [(.tmp 96), (.tmp 97)]⟩, (List.range 17), true, 0, 0⟩,
 ⟨⟨some 99, (some (92, true)), .prim (.bin true .eql (.tmp 95) (.tmp 98))⟩, (List.range 18), false, 4, 4⟩,
 ⟨⟨some 100, none, .prim (.pick (.tmp 92) (.tmp 99) (.const (.bool false)))⟩, (List.range 19), false, 4, 4⟩,
 ⟨⟨some 101, none, .prim (.mov (.tmp 100))⟩, (List.range 20), false, 4, 4⟩,
 ⟨⟨some 102, (some (101, true)), .call (.func 16) []⟩, (List.range 21), true, 0, 0⟩,
 ⟨⟨some 103, none, .prim (.pick (.tmp 101) (.tmp 102) (.const (.bool false)))⟩, (List.range 22), false, 5, 5⟩,
 ⟨⟨some 8, none, .prim (.mov (.tmp 103))⟩, (List.range 23), false, 5, 5⟩])
 .ret)))))))))
def o4 : List Tmp := []
def r4 : List RV := [.tmp 8]
theorem t4 : Text Tryz.prog 4 o4 c4 r4 104 := ⟨⟨Tryz.f4, _, by kernel_rfl, by kernel_rfl, rfl, by kernel_rfl, by kernel_rfl, rfl⟩, by kernel_rfl⟩
end Go.Proofs.YtmkmhhjkdaklbaaGreat
namespace Go.Proofs.YtmkmhhjkdaklbaaGreat
open Go Go.Ab Go.Cod Go.ChangeShapes Go.WideShapes Go.ChangeAt Go.RowKit
set_option maxRecDepth 100000
theorem beq_same' (b : Bool) : (b == b) = true := by cases b <;> rfl
theorem weigh_sm {r : RuM} (h : ¬ 300 < weighR r) : RSm r ∧ r.eq.length ≤ 300 := by
 have h1 := weighS_len r.eq (weigh2 r) (by unfold weighR at h; omega)
 have h2 : weigh2 r ≤ 300 := by omega
 have h3 : weighL (r.src.map matP) 0 ≤ 300 ∧ weighL (r.tgt.map matP) 0 ≤ 300 := by
  unfold weigh2 at h2
  split at h2 <;> omega
 have w1 := weighL_len _ _ h3.1
 have w2 := weighL_len _ _ h3.2
 refine ⟨⟨fun x hx => ?_, fun x hx => ?_, fun s hs => ?_⟩, by omega⟩
 · have := (w1.2 (matP x) (List.mem_map.2 ⟨x, hx, rfl⟩)).1
   simp only [matP] at this
   omega
 · have := (w2.2 (matP x) (List.mem_map.2 ⟨x, hx, rfl⟩)).1
   simp only [matP] at this
   omega
 · have := h1.2 s hs
   omega
theorem alike_self (x : RuM) (h : ruIs x = true ∨ x = noRu) : ∀ s, Ans Tryz.prog 21 [ruV x, ruV x] s (Bo true) s := fun s => by
 have hl : x.src.length ≤ 1000 ∧ x.tgt.length ≤ 1000 ∧ x.eq.length ≤ 100000 := by
  rcases h with h | rfl
  · obtain ⟨h1, h2, h3, h4, h5⟩ := ruIs_all h
    have := (listB_at h1).1; have := (listB_at h2).1
    omega
  · exact ⟨by decide, by decide, by decide⟩
 have := alike_ans s x x hl.1 hl.2.1 hl.2.2
 rw [alikeB_refl] at this; exact this
theorem readRu_form (b : Byt) : ∃ (x : RuM) (k : Nat) (ok : Bool), (ruIs x = true ∨ x = noRu) ∧ readV (ruR b) b ruV (ruV noRu) = .tup [ruV x, I k, Bo ok] := by
 cases hr : ruR b with
 | none => exact ⟨noRu, 0, false, .inr rfl, rfl⟩
 | some p => exact ⟨p.1, _, true, .inl (ru_fits.bwd b p.1 p.2 hr).1.1, rfl⟩
theorem ruleBytes_ans (r : RuM) (b : Byt) : Ans Tryz.prog 3 [ruV r, .sl 1 (byv b)] [] (.pl (.bool true)) [] := by
 have hw := fun σ => weighrule_ans σ r
 have d3 : decide ((300 : Int) < weighR r) = decide (300 < weighR r) := decNN 300 _
 have d6 : decide ((600 : Int) < b.length) = decide (600 < b.length) := decNN 600 _
 have hsm := fun h => @weigh_sm r h
 generalize weighR r = w at hw d3 hsm
 have i1 := fun σ => rubytes_ans σ r
 refine Ans.of_run t3 ?_
 by_cases hb : 300 < w
 · rw [decide_eq_true hb] at d3
   unfold ruV at *
   simp -implicitDefEqProofs only [c3, r3, go_sem]
   refine CO.intro (hw _) ?_
   simp -implicitDefEqProofs only [go_sem, d3]
   refine CO.intro (rr_a _) ?_
   simp -implicitDefEqProofs only [go_sem]
   exact Fini.trim2 (σ' := []) rfl rfl (Nat.le_refl _) (.pl _) (fun o ho => by cases ho)
 · rw [decide_eq_false hb] at d3
   by_cases h6 : 600 < b.length
   · rw [decide_eq_true h6] at d6
     unfold ruV at *
     simp -implicitDefEqProofs only [c3, r3, go_sem]
     refine CO.intro (hw _) ?_
     simp -implicitDefEqProofs only [go_sem, d3, byv_len, d6]
     refine CO.intro (rr_a _) ?_
     simp -implicitDefEqProofs only [go_sem]
     exact Fini.trim2 (σ' := []) rfl rfl (Nat.le_refl _) (.pl _) (fun o ho => by cases ho)
   · rw [decide_eq_false h6] at d6
     obtain ⟨hsm, hq4⟩ := hsm hb
     have i2 := fun σ => drubytes_ans σ r hsm
     have p1 := fun σ => ruread_ans σ b (by omega)
     have p2 := fun σ => druread_ans σ b (by omega)
     obtain ⟨x, k, ok, hx, hv⟩ := readRu_form b
     have ha := alike_self x hx
     rw [hv] at p1 p2
     generalize bytesRu r = bl at i1 i2
     have e0 := beq_same'
     clear hsm hv hx
     obtain ⟨xs, xt, xa, xl, xh, xe⟩ := x
     unfold ruV at *
     simp -implicitDefEqProofs only [c3, r3, go_sem]
     refine CO.intro (hw _) ?_
     simp -implicitDefEqProofs only [go_sem, d3, byv_len, d6]
     refine CO.intro (p1 _) ?_
     simp -implicitDefEqProofs only [go_sem]
     refine CO.intro (p2 _) ?_
     simp -implicitDefEqProofs only [go_sem]
     refine CD.intro (i1 _) ?_
     simp -implicitDefEqProofs only [go_sem, byv_all', bc, byteL_byv, textOf_byv, AV.isStr]
     refine CD.intro (i2 _) ?_
     simp -implicitDefEqProofs only [go_sem, byv_all', bc, byteL_byv, textOf_byv, AV.isStr, e0]
     refine CD.intro (ha _) ?_
     simp -implicitDefEqProofs only [go_sem]
     refine CD.intro (rr_a _) ?_
     simp -implicitDefEqProofs only [go_sem]
     exact Fini.trim2 (σ' := []) rfl rfl (Nat.le_refl _) (.pl _) (fun o ho => by cases ho)
end Go.Proofs.YtmkmhhjkdaklbaaGreat
