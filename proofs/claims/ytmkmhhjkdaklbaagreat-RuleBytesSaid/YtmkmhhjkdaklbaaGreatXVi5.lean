/- Both parsers of patterns read the same. No condition. -/
import Derived.Test.YtmkmhhjkdaklbaaGreatXPDoc4
import Derived.Test.YtmkmhhjkdaklbaaGreatXTake
import Derived.Test.YtmkmhhjkdaklbaaGreatXPPar3
import Derived.Test.YtmkmhhjkdaklbaaGreatXMCode1
import Derived.Test.YtmkmhhjkdaklbaaGreatRows
import Derived.Test.YtmkmhhjkdaklbaaGreatAbArg
import Derived.Test.YtmkmhhjkdaklbaaGreatProg
import Derived.Test.YtmkmhhjkdaklbaaGreatAbStep
set_option linter.unusedSimpArgs false
set_option linter.unusedVariables false
namespace Go.Proofs.YtmkmhhjkdaklbaaGreat
open Go Go.Ab
set_option maxRecDepth 100000
open Rex
theorem pbyte_false (s : ByteArray) (a : Nat) : pbyte s a false = if over s a false then (0, a, true) else (byteAt s a, a + 1, false) := rfl
theorem within_2 : ∀ c : Nat, c < 256 → (c == 92) = false → within2.contains c = within.contains c := by decide +kernel
theorem dmember_agr (s : ByteArray) (a : Nat) : (dmember s a).2.2 = (pmember s a false).2.2 ∧ ((dmember s a).2.2 = false → dmember s a = pmember s a false) := by
 unfold dmember pmember
 rw [pbyte_false]
 cases ho : over s a false with
 | true => simp
 | false =>
   simp only [Bool.false_eq_true, if_false]
   cases hc : byteAt s a == 92 with
   | true =>
     simp only [if_true]
     unfold psign
     rw [pbyte_false]
     cases ho2 : over s (a + 1) false with
     | true => simp
     | false =>
       simp only [Bool.false_eq_true, if_false, Bool.false_or]
       cases signs.contains (byteAt s (a + 1)) <;> simp
   | false =>
     simp only [Bool.false_eq_true, if_false, Bool.false_or]
     rw [within_2 _ (byteAt_lt s a) hc]
     exact ⟨rfl, fun h => rfl⟩
theorem dTo_agr (s : ByteArray) (a : Nat) : (dTo s a).2.2 = (cTo s a false).2.2 ∧ ((dTo s a).2.2 = false → dTo s a = cTo s a false ∧ dmember s a = pmember s a false) := by
 have h := dmember_agr s a
 unfold dTo cTo
 cases hb : (dmember s a).2.2 with
 | true =>
   have hb' : (pmember s a false).2.2 = true := by rw [← h.1]; exact hb
   rw [hb', sees_true, sees_true]
   simp [hb, hb']
 | false =>
   have e := h.2 hb
   rw [← e, hb]
   cases hse : sees s (dmember s a).2.1 false 45 with
   | true =>
     have h2 := dmember_agr s ((dmember s a).2.1 + 1)
     simp only [if_true]
     exact ⟨h2.1, fun hg => ⟨h2.2 hg, trivial⟩⟩
   | false =>
     simp only [Bool.false_eq_true, if_false]
     exact ⟨trivial, fun _ => ⟨trivial, trivial⟩⟩
theorem dBad_agr (s : ByteArray) (a : Nat) : dBad s a = cBad s a false := by
 have h := dTo_agr s a
 unfold dBad cBad
 cases hb : (dTo s a).2.2 with
 | true => rw [← h.1, hb]; simp
 | false =>
   have e := h.2 hb
   rw [← e.1, ← e.2, hb]
theorem classL_true (s : ByteArray) (k : Nat) (S : List Int) (a : Nat) : classL s k S a true false = (S, a, true) := by
 cases k with
 | zero => rfl
 | succ k => rw [classL]; simp [cGo, over]
theorem dclassL_true (s : ByteArray) (k : Nat) (S : List Int) (a n : Nat) : dclassL s k S a true n = (S, a, true, n) := by
 cases k with
 | zero => rfl
 | succ k => rw [dclassL]; simp [dGo, over]
theorem cGo_eq (s : ByteArray) (a : Nat) : cGo s a false false = dGo s a false := by simp [cGo, dGo]
theorem dclassL_agr (s : ByteArray) : ∀ (k : Nat) (S : List Int) (a n : Nat),
  (dclassL s k S a false n).2.2.1 = (classL s k S a false false).2.2 ∧ n ≤ (dclassL s k S a false n).2.2.2 ∧
  ((dclassL s k S a false n).2.2.1 = false → (dclassL s k S a false n).1 = (classL s k S a false false).1 ∧ (dclassL s k S a false n).2.1 = (classL s k S a false false).2.1)
 | 0, S, a, n => ⟨rfl, Nat.le_refl _, fun _ => ⟨rfl, rfl⟩⟩
 | k + 1, S, a, n => by
   rw [dclassL, classL, cGo_eq]
   cases hg : dGo s a false with
   | false => exact ⟨rfl, Nat.le_refl _, fun _ => ⟨rfl, rfl⟩⟩
   | true =>
     simp only [if_true]
     rw [← dBad_agr]
     cases hb : dBad s a with
     | true => rw [dclassL_true, classL_true]; exact ⟨rfl, Nat.le_succ _, fun h => absurd h (by simp)⟩
     | false =>
       have hto : (dTo s a).2.2 = false := by
        unfold dBad at hb
        cases h : (dTo s a).2.2
        · rfl
        · rw [h] at hb; simp at hb
       have e := (dTo_agr s a).2 hto
       rw [← e.1, ← e.2]
       have ih := dclassL_agr s k (addR S (dmember s a).1 ((dTo s a).1 + 1 - (dmember s a).1)) (dTo s a).2.1 (n + 1)
       exact ⟨ih.1, Nat.le_trans (Nat.le_succ _) ih.2.1, ih.2.2⟩
theorem dclassL_exit (s : ByteArray) : ∀ (k : Nat) (S : List Int) (a : Nat) (b : Bool) (n : Nat), s.size - a < k → dGo s (dclassL s k S a b n).2.1 (dclassL s k S a b n).2.2.1 = false
 | 0, S, a, b, n, h => by omega
 | k + 1, S, a, b, n, h => by
   rw [dclassL]
   cases hg : dGo s a b with
   | false => exact hg
   | true =>
     have ho : over s a b = false := by
      cases h : over s a b
      · rfl
      · simp [dGo, h] at hg
     have hlt := over_lt ho
     have hb : b = false := by cases b <;> simp [over] at ho ⊢
     subst hb
     have h1 := dmember_gt s a ho
     have h2 := dTo_ge s a
     exact dclassL_exit s k _ _ _ _ (by omega)
theorem dclass_agr (s : ByteArray) (a : Nat) : (dclass s a).2.2 = (pclass s a false).2.2 ∧ ((dclass s a).2.2 = false → (dclass s a).1 = ofSet (pclass s a false).1 ∧ (dclass s a).2.1 = (pclass s a false).2.1) := by
 have h1 := dclassL_agr s (s.size + 3) z4 (nextA s a false 94) 0
 have h2 := dclassL_exit s (s.size + 3) z4 (nextA s a false 94) false 0 (by omega)
 unfold dclass dOut pclass
 simp only
 cases hg : dGo s (nextA s a false 94) false with
 | false =>
   have e : dclassL s (s.size + 3) z4 (nextA s a false 94) false 0 = (z4, nextA s a false 94, false, 0) := by rw [dclassL, hg]; rfl
   have hbad : (classL s (s.size + 3) z4 (nextA s a false 94) false true).2.2 = true := by
    rw [classL]
    rw [if_pos (show cGo s (nextA s a false 94) false true = true from rfl)]
    have hm : (pmember s (nextA s a false 94) false).2.2 = true := by
     generalize nextA s a false 94 = a0 at hg
     unfold pmember
     rw [pbyte_false]
     cases ho : over s a0 false with
     | true => simp
     | false =>
       have h93 : sees s a0 false 93 = true := by simpa [dGo, ho] using hg
       rw [sees_byte ho] at h93
       have e93 : byteAt s a0 = 93 := by simpa using h93
       simp [e93, within]
    have hc : cBad s (nextA s a false 94) false = true := by
     unfold cBad
     rw [cTo_mono s _ false hm]; rfl
    rw [hc, classL_true]
   rw [e, hbad]
   simp
 | true =>
   have ef : classL s (s.size + 3) z4 (nextA s a false 94) false true = classL s (s.size + 3) z4 (nextA s a false 94) false false := by
    have step : ∀ first, classL s (s.size + 3) z4 (nextA s a false 94) false first = if cGo s (nextA s a false 94) false first then
      classL s (s.size + 2) (addR z4 (pmember s (nextA s a false 94) false).1 ((cTo s (nextA s a false 94) false).1 + 1 - (pmember s (nextA s a false 94) false).1)) (cTo s (nextA s a false 94) false).2.1 (cBad s (nextA s a false 94) false) false
      else (z4, nextA s a false 94, false) := fun _ => rfl
    rw [step true, step false, cGo_eq, hg]
    rfl
   have hn : 1 ≤ (dclassL s (s.size + 3) z4 (nextA s a false 94) false 0).2.2.2 := by
    rw [dclassL, hg, if_pos rfl]
    cases hb : dBad s (nextA s a false 94) with
    | true => rw [dclassL_true]; exact Nat.le_refl _
    | false => exact (dclassL_agr s (s.size + 2) _ _ (0 + 1)).2.1
   rw [ef]
   have h1' : (dclassL s (s.size + 3) [0, 0, 0, 0] (nextA s a false 94) false 0).2.2.1 = (classL s (s.size + 3) [0, 0, 0, 0] (nextA s a false 94) false false).2.2 := h1.1
   generalize dclassL s (s.size + 3) z4 (nextA s a false 94) false 0 = l at h1 h2 hn ⊢
   obtain ⟨S, a1, b1, n⟩ := l
   generalize classL s (s.size + 3) z4 (nextA s a false 94) false false = r at h1 ⊢
   obtain ⟨S', a', b'⟩ := r
   simp only at h1 h2 hn ⊢
   obtain ⟨hb, _, he⟩ := h1
   subst hb
   have hn0 : (n == 0) = false := by simp; omega
   rw [hn0, Bool.or_false]
   cases b1 with
   | true => simp [over]
   | false =>
     obtain ⟨rfl, rfl⟩ := he rfl
     cases ho : over s a1 false with
     | true => simp [sees, ho]
     | false =>
       have h93 : sees s a1 false 93 = true := by simpa [dGo, ho] using h2
       simp [h93, nextA]
theorem orU_zero : ∀ r : Nat, r < 64 → orU 0 (bitU r) = bitU r := by decide +kernel
theorem oneS_eq (c : Nat) (hc : c < 256) : oneS c = setAdd z4 c := by
 unfold oneS setAdd
 have h4 : c / 64 < 4 := by omega
 have : z4.getD (c / 64) 0 = 0 := by
  generalize c / 64 = k at h4
  match k, h4 with
  | 0, _ => rfl
  | 1, _ => rfl
  | 2, _ => rfl
  | 3, _ => rfl
 rw [this, orU_zero _ (by omega)]
theorem full_eq : turnS z4 = fullS := by decide +kernel
theorem specials_eq' : ∀ c : Nat, c < 256 → ((specials.contains c == stray.contains c) || (c == 40 || c == 91 || c == 46 || c == 92 || c == 124 || c == 41)) = true := by decide +kernel
theorem specials_eq : ∀ c : Nat, c < 256 → (c == 40) = false → (c == 91) = false → (c == 46) = false → (c == 92) = false → (c == 124) = false → (c == 41) = false → specials.contains c = stray.contains c := by
 intro c hc h1 h2 h3 h4 h5 h6
 have := specials_eq' c hc
 rw [h1, h2, h3, h4, h5, h6] at this
 simpa using this
def Agr (cond : Nat → Prop) (P : PF) (F : DF) : Prop :=
 ∀ a, cond a → (F a).2.2.2 = (P a false).2.2 ∧ ((F a).2.2.2 = false → (F a).1 = (P a false).1 ∧ (F a).2.1 = (P a false).2.1)
def atAtom (s : ByteArray) (a : Nat) : Prop := wGo s a false = true
theorem agr_atom (s : ByteArray) {P : PF} {F : DF} {d : Nat} (hd : d ≤ 8) (h : d < 8 → Agr (fun _ => True) P F) : Agr (atAtom s) (patom s P d) (datom s F d) := by
 intro a hg
 have ho : over s a false = false := by simp [atAtom, wGo] at hg; exact hg.1
 have h124 : (byteAt s a == 124) = false := by rw [← sees_byte ho]; simp [atAtom, wGo] at hg; exact hg.2.1
 have h41 : (byteAt s a == 41) = false := by rw [← sees_byte ho]; simp [atAtom, wGo] at hg; exact hg.2.2
 have hc := byteAt_lt s a
 unfold patom datom
 simp only
 rw [pbyte_false, ho]
 simp only [Bool.false_eq_true, if_false, Bool.false_or]
 cases h40 : byteAt s a == 40 with
 | true =>
   have e40 : byteAt s a = 40 := by simpa using h40
   rw [e40]
   have hd8 : decide (8 < d + 1) = (d == 8) := by rw [Bool.eq_iff_iff]; simp; omega
   rw [hd8]
   cases h8 : d == 8 with
   | true => simp
   | false =>
     have hd7 : d < 8 := by
      have : d ≠ 8 := by simpa using h8
      omega
     have ih := h hd7 (a + 1) trivial
     generalize F (a + 1) = w at ih ⊢
     generalize P (a + 1) false = v at ih ⊢
     obtain ⟨x, a1, d1, b1⟩ := w
     obtain ⟨y, a2, b2⟩ := v
     simp only at ih
     obtain ⟨hb, he⟩ := ih
     subst hb
     cases b1 with
     | true => simp [sees_true]
     | false =>
       obtain ⟨rfl, rfl⟩ := he rfl
       cases hse : sees s a1 false 41 <;> simp [hse, nextA]
 | false =>
   cases h91 : byteAt s a == 91 with
   | true =>
     have e91 : byteAt s a = 91 := by simpa using h91
     have ih := dclass_agr s (a + 1)
     simp [e91]
     exact ih
   | false =>
     cases h46 : byteAt s a == 46 with
     | true => simp [full_eq]
     | false =>
       cases h92 : byteAt s a == 92 with
       | true =>
         have e92 : byteAt s a = 92 := by simpa using h92
         simp only [Bool.false_eq_true, if_false, if_true]
         unfold psign
         rw [pbyte_false]
         cases ho2 : over s (a + 1) false with
         | true => simp
         | false =>
           have := oneS_eq _ (byteAt_lt s (a + 1))
           simp only [Bool.false_eq_true, if_false, Bool.false_or]
           cases hq : signs.contains (byteAt s (a + 1)) <;> simp [this]
       | false =>
         rw [← specials_eq _ hc h40 h91 h46 h92 h124 h41]
         simp only [Bool.false_eq_true, if_false]
         cases hsp : specials.contains (byteAt s a)
         · simp [oneS_eq _ hc]
         · simp
theorem agr_factor (s : ByteArray) {P : PF} {F : DF} {c : Nat → Prop} (h : Agr c P F) : Agr c (pfactor s P) (dfactor s F) := by
 intro a ha
 have ih := h a ha
 unfold pfactor dfactor
 simp only
 generalize F a = w at ih ⊢
 generalize P a false = v at ih ⊢
 obtain ⟨x, a1, d1, b1⟩ := w
 obtain ⟨y, a2, b2⟩ := v
 simp only at ih ⊢
 obtain ⟨hb, he⟩ := ih
 subst hb
 cases b1 with
 | true => simp [sees_true]
 | false =>
   obtain ⟨rfl, rfl⟩ := he rfl
   cases sees s a1 false 42 <;> cases sees s a1 false 43 <;> cases sees s a1 false 63 <;> simp
theorem wGo_true (s : ByteArray) (a : Nat) : wGo s a true = false := by simp [wGo, over]
theorem pwayL_true (s : ByteArray) (P : PF) (n : Nat) (K : List Rex) (a : Nat) : (pwayL s P n K a true).2.2 = true := by
 cases n with
 | zero => rfl
 | succ n => rw [pwayL, wGo_true]; rfl
theorem dwayL_true (s : ByteArray) (F : DF) (n : Nat) (K : List Rex) (a d : Nat) : (dwayL s F n K a d true).2.2.2 = true := by
 cases n with
 | zero => rfl
 | succ n => rw [dwayL, wGo_true]; rfl
theorem agr_wayL (s : ByteArray) {P : PF} {F : DF} (h : Agr (atAtom s) P F) : ∀ (n : Nat) (K : List Rex) (a d : Nat),
  (dwayL s F n K a d false).2.2.2 = (pwayL s P n K a false).2.2 ∧ ((dwayL s F n K a d false).2.2.2 = false → (dwayL s F n K a d false).1 = (pwayL s P n K a false).1 ∧ (dwayL s F n K a d false).2.1 = (pwayL s P n K a false).2.1)
 | 0, K, a, d => ⟨rfl, fun _ => ⟨rfl, rfl⟩⟩
 | n + 1, K, a, d => by
   rw [dwayL, pwayL]
   cases hg : wGo s a false with
   | false => exact ⟨rfl, fun _ => ⟨rfl, rfl⟩⟩
   | true =>
     simp only [if_true]
     have ih := h a hg
     generalize F a = w at ih ⊢
     generalize P a false = v at ih ⊢
     obtain ⟨x, a1, d1, b1⟩ := w
     obtain ⟨y, a2, b2⟩ := v
     simp only at ih ⊢
     obtain ⟨hb, he⟩ := ih
     subst hb
     cases b1 with
     | true => rw [dwayL_true, pwayL_true]; simp
     | false =>
       obtain ⟨rfl, rfl⟩ := he rfl
       exact agr_wayL s h n (K ++ [x]) a1 d1
theorem agr_way (s : ByteArray) {P : PF} {F : DF} (h : Agr (atAtom s) P F) (d : Nat) : Agr (fun _ => True) (pway s P) (dway s F d) := by
 intro a _
 have ih := agr_wayL s h (s.size + 1) [] a d
 unfold pway dway
 simp only
 exact ⟨ih.1, fun hb => ⟨by rw [(ih.2 hb).1], (ih.2 hb).2⟩⟩
theorem pwaysL_true (s : ByteArray) (P : PF) (n : Nat) (K : List Rex) (a : Nat) : (pwaysL s P n K a true).2.2 = true := by
 cases n with
 | zero => rfl
 | succ n => rw [pwaysL, sees_true]; rfl
theorem dwaysL_true (s : ByteArray) (F : DF) (n : Nat) (K : List Rex) (a d : Nat) : (dwaysL s F n K a d true).2.2.2 = true := by
 cases n with
 | zero => rfl
 | succ n => rw [dwaysL, sees_true]; rfl
theorem agr_waysL (s : ByteArray) {P : PF} {F : DF} (h : Agr (fun _ => True) P F) : ∀ (n : Nat) (K : List Rex) (a d : Nat),
  (dwaysL s F n K a d false).2.2.2 = (pwaysL s P n K a false).2.2 ∧ ((dwaysL s F n K a d false).2.2.2 = false → (dwaysL s F n K a d false).1 = (pwaysL s P n K a false).1 ∧ (dwaysL s F n K a d false).2.1 = (pwaysL s P n K a false).2.1)
 | 0, K, a, d => ⟨rfl, fun _ => ⟨rfl, rfl⟩⟩
 | n + 1, K, a, d => by
   rw [dwaysL, pwaysL]
   cases hg : sees s a false 124 with
   | false => exact ⟨rfl, fun _ => ⟨rfl, rfl⟩⟩
   | true =>
     simp only [if_true]
     have ih := h (a + 1) trivial
     generalize F (a + 1) = w at ih ⊢
     generalize P (a + 1) false = v at ih ⊢
     obtain ⟨x, a1, d1, b1⟩ := w
     obtain ⟨y, a2, b2⟩ := v
     simp only at ih ⊢
     obtain ⟨hb, he⟩ := ih
     subst hb
     cases b1 with
     | true => rw [dwaysL_true, pwaysL_true]; simp
     | false =>
       obtain ⟨rfl, rfl⟩ := he rfl
       exact agr_waysL s h n (K ++ [x]) a1 d1
theorem agr_ways (s : ByteArray) {P : PF} {F : DF} (h : Agr (fun _ => True) P F) : Agr (fun _ => True) (pways s P) (dways s F) := by
 intro a _
 have ih := h a trivial
 unfold pways dways
 simp only
 generalize F a = w at ih ⊢
 generalize P a false = v at ih ⊢
 obtain ⟨x, a1, d1, b1⟩ := w
 obtain ⟨y, a2, b2⟩ := v
 simp only at ih ⊢
 obtain ⟨hb, he⟩ := ih
 subst hb
 cases b1 with
 | true => rw [dwaysL_true, pwaysL_true]; simp
 | false =>
   obtain ⟨rfl, rfl⟩ := he rfl
   have ih := agr_waysL s h (s.size + 1) [x] a1 d1
   exact ⟨ih.1, fun hb => ⟨by rw [(ih.2 hb).1], (ih.2 hb).2⟩⟩
theorem agr_lvl (s : ByteArray) {P : PF} {F : DF} {d : Nat} (hd : d ≤ 8) (h : d < 8 → Agr (fun _ => True) P F) : Agr (fun _ => True) (lvl s P d) (dlvl s F d) :=
 agr_ways s (agr_way s (agr_factor s (agr_atom s hd h)) d)
theorem agr_W (s : ByteArray) : ∀ k, Agr (fun _ => True) (PW s k) (DW s k)
 | 0 => agr_lvl s (Nat.le_refl _) (fun h => absurd h (Nat.lt_irrefl _))
 | k + 1 => agr_lvl s (by omega) (fun _ => agr_W s k)
theorem dparse_eq (s : ByteArray) : dparse s = pparse s := by
 unfold dparse pparse
 simp only
 cases h40 : decide (40 < s.size) with
 | true =>
   have := (fwd_PW s 8 0 true).2 rfl
   rw [this]
   rfl
 | false =>
   have ih := agr_W s 8 0 trivial
   simp only [Bool.false_eq_true, if_false]
   generalize DW s 8 0 = w at ih ⊢
   generalize PW s 8 0 false = v at ih ⊢
   obtain ⟨x, a1, d1, b1⟩ := w
   obtain ⟨y, a2, b2⟩ := v
   simp only at ih ⊢
   obtain ⟨hb, he⟩ := ih
   subst hb
   cases b1 with
   | true => simp; rfl
   | false =>
     obtain ⟨rfl, rfl⟩ := he rfl
     rfl
end Go.Proofs.YtmkmhhjkdaklbaaGreat
namespace Go.Proofs.YtmkmhhjkdaklbaaGreat
open Go Go.Ab Rex
set_option maxRecDepth 100000
theorem likeD_ans (σ : St) (k : Int) (nm v : ByteArray) : Ans Tryz.prog 169 [mat k nm v] σ (Bo (likeB k)) σ := by
 refine Ans.of_run t169 ?_
 simp -implicitDefEqProofs only [c169, r169, go_sem]
 unfold likeB
 cases h : k == 3
 · simp -implicitDefEqProofs only [go_sem]
   exact Fini.ret rfl
 · simp -implicitDefEqProofs only [go_sem]
   exact Fini.ret rfl
end Go.Proofs.YtmkmhhjkdaklbaaGreat
namespace Go.Proofs.YtmkmhhjkdaklbaaGreat
open Go Go.Ab Rex
set_option maxRecDepth 100000
def okN (s : ByteArray) (i : Nat) : Bool := letterB (byteAt s i) || (!(i == 0) && digitB (byteAt s i))
def nameD (s : ByteArray) : Bool := (List.range s.size).all (okN s) && (decide (1 ≤ s.size) && decide (s.size ≤ 12))
theorem nameD_eq (s : ByteArray) : nameD s = nameB s := by
 unfold nameD nameB
 by_cases h1 : 1 ≤ s.size
 · by_cases h2 : s.size ≤ 12
   · rw [decide_eq_true h1, decide_eq_true h2]
     simp only [Bool.and_self, Bool.and_true, Bool.true_and]
     rw [Bool.eq_iff_iff]
     simp only [Bool.and_eq_true, List.all_eq_true, List.mem_range, okN, Bool.or_eq_true, Bool.not_eq_true', beq_eq_false_iff_ne]
     constructor
     · intro h
       refine ⟨?_, fun i hi => ?_⟩
       · rcases h 0 (by omega) with h | h
         · exact h
         · exact absurd rfl h.1
       · rcases h i hi with h | h
         · exact .inl h
         · exact .inr h.2
     · rintro ⟨h0, h⟩ i hi
       by_cases hz : i = 0
       · subst hz; exact .inl h0
       · rcases h i hi with h | h
         · exact .inl h
         · exact .inr ⟨hz, h⟩
   · rw [decide_eq_false h2]; simp
 · rw [decide_eq_false h1]; simp
set_option maxHeartbeats 16000000 in
theorem dname_ans (σ : St) (s : ByteArray) (hs : s.size ≤ 100000) : Ans Tryz.prog 121 [Sx s] σ (Bo (nameB s)) σ := by
 rw [← nameD_eq]
 refine Ans.of_run t121 ?_
 simp -implicitDefEqProofs only [c121, r121, go_sem]
 refine Go.Ab.L.scan s.size (okN s) (fun i => mkE 55 [(0, Sx s), (3, I i)]) (fun _ => σ) ?_ ?_ rfl rfl
 · intro i hi hp J hJ
   have hlt : ((i : Int) < s.size) = True := by simp; omega
   have hdi : decide ((i : Int) < s.size) = true := by simp; omega
   have hin := wrap_nat (n := i) (by omega)
   have hF : okN s i = false → nameD s = false := fun h => by
    rw [nameD, List.all_eq_false.2 ⟨i, List.mem_range.2 hi, by simp [h]⟩]; rfl
   have e1 : decide ((97 : Int) ≤ (byteAt s i : Nat)) = decide (97 ≤ byteAt s i) := int_le 97 _
   have e2 : decide (((byteAt s i : Nat) : Int) ≤ 122) = decide (byteAt s i ≤ 122) := int_le _ 122
   have e3 : decide ((65 : Int) ≤ (byteAt s i : Nat)) = decide (65 ≤ byteAt s i) := int_le 65 _
   have e4 : decide (((byteAt s i : Nat) : Int) ≤ 90) = decide (byteAt s i ≤ 90) := int_le _ 90
   have e5 : (((byteAt s i : Nat) : Int) == 95) = (byteAt s i == 95) := beq_cast _ 95
   have e6 : decide (((byteAt s i : Nat) : Int) < 48) = decide (byteAt s i < 48) := decN _ 48
   have e7 : decide ((57 : Int) < (byteAt s i : Nat)) = decide (57 < byteAt s i) := decN 57 _
   have e8 : ((i : Int) == 0) = (i == 0) := beq_cast i 0
   have hd : digitB (byteAt s i) = (!decide (byteAt s i < 48) && !decide (57 < byteAt s i)) := by
    unfold digitB
    rw [Bool.eq_iff_iff]; simp
   have hL : letterB (byteAt s i) = (decide (97 ≤ byteAt s i) && decide (byteAt s i ≤ 122) || decide (65 ≤ byteAt s i) && decide (byteAt s i ≤ 90) || byteAt s i == 95) := rfl
   have hO : okN s i = (letterB (byteAt s i) || (!(i == 0) && digitB (byteAt s i))) := rfl
   rw [hO, hL, hd] at hF hJ
   generalize decide (97 ≤ byteAt s i) = b1 at *
   generalize decide (byteAt s i ≤ 122) = b2 at *
   generalize decide (65 ≤ byteAt s i) = b3 at *
   generalize decide (byteAt s i ≤ 90) = b4 at *
   generalize (byteAt s i == 95) = b5 at *
   generalize decide (byteAt s i < 48) = b6 at *
   generalize decide (57 < byteAt s i) = b7 at *
   generalize (i == 0) = b8 at *
   clear hL hd hO
   simp -implicitDefEqProofs only [mkE, go_sem, hlt, hdi, byteAt_def]
   cases b1 <;> cases b2 <;> cases b3 <;> cases b4 <;> cases b5
   all_goals simp -implicitDefEqProofs only [go_sem, e1, e2, e3, e4, e5, e6, e7, e8, hin]
   all_goals first
    | exact hJ rfl
    | (cases b8 <;> cases b6 <;> cases b7 <;> simp -implicitDefEqProofs only [go_sem, e6, e7, e8, hin] <;> first
      | exact hJ rfl
      | (refine Fini.ret' rfl (bo_congr ?_); exact (hF rfl).symm))
 · intro hp J
   have hdi : decide ((s.size : Int) < s.size) = false := by simp
   have d1 : decide ((1 : Int) ≤ s.size) = decide (1 ≤ s.size) := int_le 1 _
   have d2 : decide ((s.size : Int) ≤ 12) = decide (s.size ≤ 12) := int_le _ 12
   have hA : (List.range s.size).all (okN s) = true := List.all_eq_true.2 fun i hi => hp i (List.mem_range.1 hi)
   rw [nameD, hA, Bool.true_and]
   cases h1 : decide (1 ≤ s.size) with
   | true =>
     rw [h1] at d1
     simp -implicitDefEqProofs only [mkE, go_sem, hdi, d1, d2]
     exact Fini.ret rfl
   | false =>
     rw [h1] at d1
     simp -implicitDefEqProofs only [mkE, go_sem, hdi, d1, d2]
     exact Fini.ret rfl
end Go.Proofs.YtmkmhhjkdaklbaaGreat
namespace Go.Proofs.YtmkmhhjkdaklbaaGreat
open Go Go.Ab Rex
set_option maxRecDepth 100000
theorem dis_any (σ : St) (k : Int) (nm v : ByteArray) (hs : nm.size ≤ 100000) : Ans Tryz.prog 149 [mat k nm v] σ (Bo (isB k nm v)) σ := by
 refine Ans.of_run t149 ?_
 unfold isB
 simp -implicitDefEqProofs only [c149, r149, go_sem]
 refine CO.intro (dname_ans σ nm hs) ?_
 cases hn : nameB nm with
 | false =>
   simp -implicitDefEqProofs only [go_sem]
   exact Fini.ret rfl
 | true =>
 simp -implicitDefEqProofs only [go_sem]
 refine CO.intro (likeD_ans σ k nm v) ?_
 cases hk : likeB k with
 | true =>
   simp -implicitDefEqProofs only [go_sem]
   refine CO.intro (dparse_ans v σ) ?_
   rw [dparse_eq]
   have hrv := Rex.rv_eq (pparse v).1
   generalize (pparse v).1 = x at hrv ⊢
   generalize (pparse v).2 = b
   rw [hrv]
   rcases Rex.rvK_cases x.ks with e | ⟨l, e⟩ <;> rw [e]
   all_goals (simp -implicitDefEqProofs only [go_sem]; exact Fini.ret rfl)
 | false =>
   have d : decide ((v.size : Int) ≤ 24) = decide (v.size ≤ 24) := int_le v.size 24
   simp -implicitDefEqProofs only [go_sem]
   cases h1 : k == 1 with
   | true =>
     simp -implicitDefEqProofs only [go_sem, d]
     exact Fini.ret rfl
   | false =>
     simp -implicitDefEqProofs only [go_sem]
     cases h2 : k == 2 with
     | true =>
       simp -implicitDefEqProofs only [go_sem, d]
       exact Fini.ret rfl
     | false =>
       simp -implicitDefEqProofs only [go_sem]
       exact Fini.ret rfl
end Go.Proofs.YtmkmhhjkdaklbaaGreat
namespace Go.Proofs.YtmkmhhjkdaklbaaGreat
open Go Go.Ab
set_option maxRecDepth 100000
theorem before_ans (σ : St) (x y : Mtr) : Ans Tryz.prog 150 [mv3 x, mv3 y] σ (Bo (aheadD x y)) σ := by
 refine Ans.of_run t150 ?_
 unfold aheadD
 simp -implicitDefEqProofs only [c150, r150, go_sem, mv3]
 cases h1 : (x.2.1.toList == y.2.1.toList) with
 | false =>
   simp -implicitDefEqProofs only [go_sem]
   exact Fini.ret rfl
 | true =>
   simp -implicitDefEqProofs only [go_sem]
   cases h2 : (x.1 == y.1) with
   | false =>
     simp -implicitDefEqProofs only [go_sem, bne, h2]
     exact Fini.ret rfl
   | true =>
     simp -implicitDefEqProofs only [go_sem, bne, h2]
     exact Fini.ret rfl
theorem mvs3_get (M : List Mtr) (i : Nat) (h : i < M.length) : (mvs3 M)[i]? = some (mv3 M[i]) := by simp [mvs3, h]
theorem mvs3_len (M : List Mtr) : (mvs3 M).length = M.length := List.length_map ..
abbrev noM3 : Mtr := (0, ⟨#[]⟩, ⟨#[]⟩)
def isM (x : Mtr) : Bool := isB x.1 x.2.1 x.2.2
def okL (M : List Mtr) (i : Nat) : Bool := isM (M.getD i noM3) && (i == 0 || aheadD (M.getD (i - 1) noM3) (M.getD i noM3))
def listB (M : List Mtr) : Bool := decide (M.length ≤ 5) && (List.range M.length).all (okL M)
theorem mget_D (M : List Mtr) (i : Nat) (h : i < M.length) : (mvs3 M)[i]? = some (mv3 (M.getD i noM3)) := by
 rw [mvs3_get M i h, List.getD_eq_getElem?_getD, List.getElem?_eq_getElem h]; rfl
theorem dlist_ans (σ : St) (M : List Mtr) (hs : ∀ x ∈ M, x.2.1.size ≤ 100000) : Ans Tryz.prog 117 [.sl 3 (mvs3 M)] σ (Bo (listB M)) σ := by
 refine Ans.of_run t117 ?_
 have d5 : decide ((5 : Int) < M.length) = decide (5 < M.length) := decN 5 _
 unfold listB
 simp -implicitDefEqProofs only [c117, r117, go_sem, mvs3_len, d5]
 by_cases hl : M.length ≤ 5
 · rw [decide_eq_true hl, Bool.true_and]
   have h5 : decide (5 < M.length) = false := decide_eq_false (by omega)
   simp -implicitDefEqProofs only [go_sem, h5]
   refine Go.Ab.L.scan M.length (okL M) (fun i => mkE 36 [(0, .sl 3 (mvs3 M)), (3, I i)]) (fun _ => σ) ?_ ?_ rfl rfl
   · intro i hi hp J hJ
     have hF : okL M i = false → (List.range M.length).all (okL M) = false := fun h => List.all_eq_false.2 ⟨i, List.mem_range.2 hi, by simp [h]⟩
     have hx := mget_D M i hi
     have hsz : (M.getD i noM3).2.1.size ≤ 100000 := by
      rw [List.getD_eq_getElem?_getD, List.getElem?_eq_getElem hi]; exact hs _ (List.getElem_mem hi)
     have hin := wrap_nat (n := i) (by omega)
     have hI := fun σ => dis_any σ (M.getD i noM3).1 (M.getD i noM3).2.1 (M.getD i noM3).2.2 hsz
     have hO : okL M i = (isB (M.getD i noM3).1 (M.getD i noM3).2.1 (M.getD i noM3).2.2 && (i == 0 || aheadD (M.getD (i - 1) noM3) (M.getD i noM3))) := rfl
     have d0 : decide ((0 : Int) < i) = decide (0 < i) := decN 0 i
     rw [hO] at hJ hF
     simp -implicitDefEqProofs only [mkE, go_sem, mvs3_len, nat_lt hi, dec_lt hi, hx, mv3, D_callS]
     first | refine CD.intro (hI _) ?_ | refine CS.intro hI ?_
     generalize isB (M.getD i noM3).1 (M.getD i noM3).2.1 (M.getD i noM3).2.2 = b1 at hJ hF
     cases b1 with
     | false =>
       simp -implicitDefEqProofs only [go_sem]
       refine Fini.ret' rfl (bo_congr ?_)
       rw [hF rfl]
     | true =>
       by_cases hz : i = 0
       · subst hz
         simp -implicitDefEqProofs only [go_sem, hin, D_callS, Int.natCast_zero]
         exact hJ rfl
       · have hpos : decide (0 < i) = true := by simp; omega
         have hx1 := mget_D M (i - 1) (by omega)
         have hB := fun σ => before_ans σ (M.getD (i - 1) noM3) (M.getD i noM3)
         have w1 : IntKind.i64.wrap ((i : Int) - 1) = ((i - 1 : Nat) : Int) := by rw [wrapN (by omega) (by omega)]; omega
         have hlt1 : (((i - 1 : Nat) : Int) < M.length) = True := by simp; omega
         have hz' : (i == 0) = false := by simpa using hz
         rw [hz'] at hJ hF
         simp -implicitDefEqProofs only [go_sem, d0, hpos, w1, mvs3_len, nat_lt hi, dec_lt hi, hlt1, hx, hx1, D_callS, mv3]
         first | refine CD.intro (hB _) ?_ | refine CS.intro hB ?_
         generalize aheadD (M.getD (i - 1) noM3) (M.getD i noM3) = b2 at hJ hF
         cases b2 with
         | true =>
           simp -implicitDefEqProofs only [go_sem, hin]
           exact hJ rfl
         | false =>
           simp -implicitDefEqProofs only [go_sem]
           refine Fini.ret' rfl (bo_congr ?_)
           rw [hF rfl]
   · intro hp J
     have hd : decide ((M.length : Int) < M.length) = false := by simp
     simp -implicitDefEqProofs only [mkE, go_sem, mvs3_len, hd]
     refine Fini.ret' rfl (bo_congr ?_)
     exact (List.all_eq_true.2 fun i hi => hp i (List.mem_range.1 hi)).symm
 · rw [decide_eq_false hl, Bool.false_and]
   have h5 : decide (5 < M.length) = true := decide_eq_true (by omega)
   simp -implicitDefEqProofs only [go_sem, h5]
   exact Fini.ret rfl
end Go.Proofs.YtmkmhhjkdaklbaaGreat
namespace Go.Proofs.YtmkmhhjkdaklbaaGreat
open Go Go.Ab
set_option maxRecDepth 100000
theorem bel_mvs3 (n : Nat) (M : List Mtr) : Bel n (.sl 3 (mvs3 M)) := by
 refine .sl 3 _ fun i hi => ?_
 have : ∀ y ∈ mvs3 M, Bel n y := by
  intro y hy
  simp only [mvs3, List.mem_map] at hy
  obtain ⟨x, _, rfl⟩ := hy
  refine .agg _ fun i hi => ?_
  have : ∀ y ∈ ([I x.1, Sx x.2.1, Sx x.2.2] : List AV), Bel n y := by
   intro y hy
   simp only [List.mem_cons, List.not_mem_nil, or_false] at hy
   rcases hy with rfl | rfl | rfl <;> exact .pl _
  exact this _ (List.getElem_mem hi)
 exact this _ (List.getElem_mem hi)
theorem BL_mvs (n : Nat) (M : List Mtr) : Bel n (.sl 3 (mvs3 M)) = True := eq_true (bel_mvs3 n M)
theorem memM (n : Nat) (k : Int) (a b : ByteArray) : ∀ y ∈ ([I k, Sx a, Sx b] : List AV), Bel n y := by
 intro y hy
 simp only [List.mem_cons, List.not_mem_nil, or_false] at hy
 rcases hy with rfl | rfl | rfl <;> exact .pl _
theorem BL_mat (n : Nat) (k : Int) (a b : ByteArray) : Bel n (.agg [I k, Sx a, Sx b]) = True := eq_true (.agg _ fun i hi => memM n k a b _ (List.getElem_mem hi))
theorem BL_rp (n : Nat) (k : Int) (a b : ByteArray) : Bel n (.rp [I k, Sx a, Sx b]) = True := eq_true (.rp _ fun i hi => memM n k a b _ (List.getElem_mem hi))
theorem list_any (σ : St) (M : List Mtr) : Ans Tryz.prog 106 [.sl 3 (mvs3 M)] σ (Bo (listB M)) σ := by
 refine Ans.of_run' t106 (fun hbel _ => ?_)
 have d5 : decide ((5 : Int) < M.length) = decide (5 < M.length) := decN 5 _
 have hb0 : (∀ o ∈ σ, BelO σ.length o) = True := eq_true hbel
 unfold listB
 simp -implicitDefEqProofs only [c106, r106, go_sem, mvs3_len, d5]
 by_cases hl : M.length ≤ 5
 · rw [decide_eq_true hl, Bool.true_and]
   have h5 : decide (5 < M.length) = false := decide_eq_false (by omega)
   simp -implicitDefEqProofs only [go_sem, h5, mvs3_len]
   refine Go.Ab.L.scan M.length (okL M) (fun i => mkE 33 [(0, .sl 3 (mvs3 M)), (8, .sl 3 (mvs3 M)), (9, I M.length), (10, I i)]) (fun _ => σ) ?_ ?_ rfl rfl
   · intro i hi hp J hJ
     have htk : ∀ x : Ob, (σ ++ [x]).take σ.length = σ := fun x => List.take_left' rfl
     have hF : okL M i = false → (List.range M.length).all (okL M) = false := fun h => List.all_eq_false.2 ⟨i, List.mem_range.2 hi, by simp [h]⟩
     have hx := mget_D M i hi
     have hin := wrap_nat (n := i) (by omega)
     have hI := fun σ => is_any σ (M.getD i noM3).1 (M.getD i noM3).2.1 (M.getD i noM3).2.2
     have hO : okL M i = (isB (M.getD i noM3).1 (M.getD i noM3).2.1 (M.getD i noM3).2.2 && (i == 0 || aheadD (M.getD (i - 1) noM3) (M.getD i noM3))) := rfl
     have d0 : decide ((0 : Int) < i) = decide (0 < i) := decN 0 i
     rw [hO] at hJ hF
     simp -implicitDefEqProofs only [mkE, go_sem, mvs3_len, nat_lt hi, dec_lt hi, hx, mv3, D_callS, g0, s0, List.drop_nil]
     first | refine CD.intro (hI _) ?_ | refine CS.intro hI ?_
     generalize isB (M.getD i noM3).1 (M.getD i noM3).2.1 (M.getD i noM3).2.2 = b1 at hJ hF
     cases b1 with
     | false =>
       simp -implicitDefEqProofs only [go_sem, D_callS, g0, s0]
       rw [hF rfl]
       exact Fini.trim2 (σ' := σ) rfl rfl (Nat.le_refl _) (.pl _) hbel
     | true =>
       by_cases hz : i = 0
       · subst hz
         have hgo := hJ rfl
         simp -implicitDefEqProofs only [go_sem, hin, D_callS, g0, s0, Int.natCast_zero, B_pl, B_any, B_nils, B_tup, B_osl, B_ptr, B_sl0, BL_mvs, BL_mat, BL_rp, htk, Nat.add_zero, hb0, List.length_append]
         exact ⟨by omega, hgo⟩
       · have hpos : decide (0 < i) = true := by simp; omega
         have hx1 := mget_D M (i - 1) (by omega)
         have hB := fun σ => compare_ans σ (M.getD (i - 1) noM3) (M.getD i noM3)
         have hc := cmp3_aheadD (M.getD (i - 1) noM3) (M.getD i noM3)
         have w1 : IntKind.i64.wrap ((i : Int) - 1) = ((i - 1 : Nat) : Int) := by rw [wrapN (by omega) (by omega)]; omega
         have hlt1 : (((i - 1 : Nat) : Int) < M.length) = True := by simp; omega
         have hz' : (i == 0) = false := by simpa using hz
         rw [hz'] at hJ hF
         simp -implicitDefEqProofs only [go_sem, d0, hpos, w1, mvs3_len, nat_lt hi, dec_lt hi, hlt1, hx, hx1, D_callS, mv3, g0, s0]
         first | refine CD.intro (hB _) ?_ | refine CS.intro hB ?_
         generalize aheadD (M.getD (i - 1) noM3) (M.getD i noM3) = b2 at hJ hF hc
         generalize cmp3 (M.getD (i - 1) noM3) (M.getD i noM3) = cc at hc
         cases b2 with
         | true =>
           have hgo := hJ rfl
           simp -implicitDefEqProofs only [go_sem, hc, hin, g0, s0, B_pl, B_any, B_nils, B_tup, B_osl, B_ptr, B_sl0, BL_mvs, BL_mat, BL_rp, htk, Nat.add_zero, hb0, List.length_append, Bool.not_true]
           exact ⟨by omega, hgo⟩
         | false =>
           simp -implicitDefEqProofs only [go_sem, hc, Bool.not_false, g0, s0]
           rw [hF rfl]
           exact Fini.trim2 (σ' := σ) rfl rfl (Nat.le_refl _) (.pl _) hbel
   · intro hp J
     have hd : decide ((M.length : Int) < M.length) = false := by simp
     simp -implicitDefEqProofs only [mkE, go_sem, mvs3_len, hd]
     refine Fini.ret' rfl (bo_congr ?_)
     exact (List.all_eq_true.2 fun i hi => hp i (List.mem_range.1 hi)).symm
 · rw [decide_eq_false hl, Bool.false_and]
   have h5 : decide (5 < M.length) = true := decide_eq_true (by omega)
   simp -implicitDefEqProofs only [go_sem, h5]
   exact Fini.ret rfl
end Go.Proofs.YtmkmhhjkdaklbaaGreat
namespace Go.Proofs.YtmkmhhjkdaklbaaGreat
open Go Go.Ab Go.ChangeShapes Go.WideShapes Go.ChangeAt Go.RowKit
set_option maxRecDepth 100000
def QMtr : List AV → Prop := fun xs => ∃ (k : Int) (a b : ByteArray), xs = [I k, Sx a, Sx b]
theorem reads_mtr (f : Nat) : Reads Tryz.prog 127 f QMtr := by
 cases f with
 | zero => exact Reads.zero
 | succ f =>
   have h := Reads.struct (P := Tryz.prog) (t := 127) (f := f) (Qs := [QInt .i64, QText, QText]) Tryz.underlying127 (by kernel_rfl) rfl (by
    intro p hp
    simp only [List.zip_cons_cons, List.zip_nil_right, List.mem_cons, List.not_mem_nil, or_false] at hp
    rcases hp with rfl | rfl | rfl
    · exact Reads.int Tryz.underlying3 f
    · exact Reads.text Tryz.underlying9 f
    · exact Reads.text Tryz.underlying9 f)
   refine h.mono fun xs hq => ?_
   obtain ⟨_, b, rfl, ⟨k, _, rfl⟩, _, d, rfl, ⟨n, _, rfl⟩, _, _, rfl, ⟨v, _, rfl⟩, rfl⟩ := hq
   exact ⟨k, n, v, rfl⟩
theorem mtrs_of : ∀ {ys : List (List AV)}, (∀ y ∈ ys, QMtr y) → ∃ L : List Mtr, ys.map (wrapC true) = mvs3 L
 | [], _ => ⟨[], rfl⟩
 | y :: ys, h => by
   obtain ⟨k, a, b, rfl⟩ := h y List.mem_cons_self
   obtain ⟨L, hL⟩ := mtrs_of fun y hy => h y (List.mem_cons_of_mem _ hy)
   exact ⟨(k, a, b) :: L, by rw [List.map_cons, hL]; rfl⟩
end Go.Proofs.YtmkmhhjkdaklbaaGreat
namespace Go.Proofs.YtmkmhhjkdaklbaaGreat
open Go Go.Ab
set_option maxRecDepth 100000
def c15 : ACode :=
 (.seq (.ops [⟨some 2, none, .prim (.boxr (.tmp 0))⟩,
 ⟨some 4, none, .prim (.mov (.const (.int .i64 0)))⟩])
 (.seq (.ops [⟨some 7, none, .prim (.fadr 0 (.tmp 2))⟩,
 ⟨some 8, none, .prim (.load 1 false (.tmp 7))⟩,
 ⟨some 9, none, .prim (.mov (.tmp 1))⟩,
 ⟨some 10, none, .call (.func 49) [(.tmp 8), (.tmp 9)]⟩,
 ⟨some 5, none, .prim (.mov (.tmp 10))⟩])
 (.seq (.seq (.ops [⟨some 11, none, .prim (.mov (.tmp 5))⟩,
 ⟨some 12, none, .prim (.mov (.tmp 1))⟩,
 ⟨some 13, none, .prim (.bin false .leq (.tmp 11) (.tmp 12))⟩])
 (.cond (.tmp 13)
 (.ops [⟨some 14, none, .prim (.mov (.tmp 5))⟩,
 ⟨some 15, none, .prim (.fadr 1 (.tmp 2))⟩,
 ⟨some 16, none, .prim (.load 1 false (.tmp 15))⟩,
 ⟨some 17, none, .prim (.mov (.tmp 1))⟩,
 ⟨some 18, none, .call (.func 49) [(.tmp 16), (.tmp 17)]⟩,
 ⟨some 19, none, .prim (.bin false .add (.tmp 14) (.tmp 18))⟩,
 ⟨some 5, none, .prim (.mov (.tmp 19))⟩])
 .skip))
 (.seq (.seq (.ops [⟨some 6, none, .prim (.mov (.const (.int .i64 0)))⟩])
 (.block 0 (.loop [0, 3, 4, 7, 8, 9, 10, 11, 12, 13, 14, 15, 16, 17, 18, 19, 20, 21, 22, 23, 24, 25, 26, 27, 28, 29, 30, 31, 32, 33, 34, 35, 36, 37, 38, 39, 40, 41, 42, 43, 44, 45, 46, 47, 48, 49, 50, 51, 52, 53, 54] (.seq (.seq (.ops [⟨some 20, none, .prim (.mov (.tmp 6))⟩,
 ⟨some 21, none, .prim (.fadr 5 (.tmp 2))⟩,
 ⟨some 22, none, .prim (.load 1 false (.tmp 21))⟩,
 ⟨some 23, none, .prim (.lenv (.tmp 22))⟩,
 ⟨some 24, none, .prim (.bin false .lss (.tmp 20) (.tmp 23))⟩,
 ⟨some 25, none, .prim (.mov (.tmp 24))⟩,
 ⟨some 26, (some (25, true)), .prim (.mov (.tmp 5))⟩,
 ⟨some 27, (some (25, true)), .prim (.mov (.tmp 1))⟩,
 ⟨some 28, (some (25, true)), .prim (.bin false .leq (.tmp 26) (.tmp 27))⟩,
 ⟨some 29, none, .prim (.pick (.tmp 25) (.tmp 28) (.const (.bool false)))⟩])
 (.cond (.tmp 29)
 .skip
 (.exit 0)))
 (.seq (.block 1 (.seq (.seq (.ops [⟨some 32, none, .prim (.fadr 5 (.tmp 2))⟩,
 ⟨some 33, none, .prim (.load 1 false (.tmp 32))⟩,
 ⟨some 34, none, .prim (.mov (.tmp 6))⟩,
 ⟨some 35, none, .prim (.iadrs 1 (.tmp 33) (.tmp 34))⟩,
 ⟨some 36, none, .prim (.load 1 false (.tmp 35))⟩,
 ⟨some 37, none, .prim (.lens (.tmp 36))⟩,
 ⟨some 38, none, .prim (.mov (.tmp 1))⟩,
 ⟨some 39, none, .prim (.bin false .gtr (.tmp 37) (.tmp 38))⟩])
 (.cond (.tmp 39)
 (.seq (.ops [⟨some 40, none, .prim (.mov (.tmp 1))⟩,
 ⟨some 41, none, .prim (.bin false .add (.tmp 40) (.const (.int .i64 1)))⟩,
 ⟨some 4, none, .prim (.mov (.tmp 41))⟩])
 .ret)
 .skip))
 (.ops [⟨some 42, none, .prim (.mov (.tmp 5))⟩,
 ⟨some 43, none, .prim (.bin false .add (.tmp 42) (.const (.int .i64 1)))⟩,
 ⟨some 44, none, .prim (.fadr 5 (.tmp 2))⟩,
 ⟨some 45, none, .prim (.load 1 false (.tmp 44))⟩,
 ⟨some 46, none, .prim (.mov (.tmp 6))⟩,
 ⟨some 47, none, .prim (.iadrs 1 (.tmp 45) (.tmp 46))⟩,
 ⟨some 48, none, .prim (.load 1 false (.tmp 47))⟩,
 ⟨some 49, none, .prim (.lens (.tmp 48))⟩,
 ⟨some 50, none, .prim (.bin false .add (.tmp 43) (.tmp 49))⟩,
 ⟨some 5, none, .prim (.mov (.tmp 50))⟩])))
 (.ops [⟨some 30, none, .prim (.mov (.tmp 6))⟩,
 ⟨some 31, none, .prim (.bin false .add (.tmp 30) (.const (.int .i64 1)))⟩,
 ⟨some 6, none, .prim (.mov (.tmp 31))⟩]))))))
 (.seq (.ops [⟨some 51, none, .prim (.mov (.tmp 5))⟩,
 ⟨some 52, none, .prim (.mov (.tmp 1))⟩,
 ⟨some 53, none, .prim (.bin false .add (.tmp 52) (.const (.int .i64 1)))⟩,
 ⟨some 54, none, .prim (.mm false (.tmp 51) (.tmp 53))⟩,
 ⟨some 4, none, .prim (.mov (.tmp 54))⟩])
 .ret)))))
def o15 : List Tmp := []
def r15 : List RV := [.tmp 4]
theorem t15 : Text Tryz.prog 15 o15 c15 r15 55 := ⟨⟨Tryz.f15, _, by kernel_rfl, by kernel_rfl, rfl, by kernel_rfl, by kernel_rfl, rfl⟩, by kernel_rfl⟩
def c51 : ACode :=
 (.seq (.ops [⟨some 1, none, .prim (.boxr (.tmp 0))⟩,
 ⟨some 2, none, .prim (.mov (.const (.bool false)))⟩])
 (.seq (.seq (.ops [⟨some 5, none, .prim (.fadr 0 (.tmp 1))⟩,
 ⟨some 6, none, .prim (.load 1 false (.tmp 5))⟩,
 ⟨some 7, none, .prim (.lenv (.tmp 6))⟩,
 ⟨some 8, none, .prim (.bin false .eql (.tmp 7) (.const (.int .i64 0)))⟩,
 ⟨some 9, none, .prim (.mov (.tmp 8))⟩,
 ⟨some 10, (some (9, false)), .prim (.fadr 1 (.tmp 1))⟩,
 ⟨some 11, (some (9, false)), .prim (.load 1 false (.tmp 10))⟩,
 ⟨some 12, (some (9, false)), .prim (.lenv (.tmp 11))⟩,
 ⟨some 13, (some (9, false)), .prim (.bin false .eql (.tmp 12) (.const (.int .i64 0)))⟩,
 ⟨some 14, none, .prim (.pick (.tmp 9) (.const (.bool true)) (.tmp 13))⟩,
 ⟨some 15, none, .prim (.mov (.tmp 14))⟩,
 ⟨some 16, (some (15, false)), .prim (.fadr 0 (.tmp 1))⟩,
 ⟨some 17, (some (15, false)), .prim (.load 1 false (.tmp 16))⟩,
 ⟨some 18, (some (15, false)), .call (.func 106) [(.tmp 17)]⟩,
 ⟨some 19, (some (15, false)), .prim (.un .not (.tmp 18))⟩,
 ⟨some 20, none, .prim (.pick (.tmp 15) (.const (.bool true)) (.tmp 19))⟩,
 ⟨some 21, none, .prim (.mov (.tmp 20))⟩,
 ⟨some 22, (some (21, false)), .prim (.fadr 1 (.tmp 1))⟩,
 ⟨some 23, (some (21, false)), .prim (.load 1 false (.tmp 22))⟩,
 ⟨some 24, (some (21, false)), .call (.func 106) [(.tmp 23)]⟩,
 ⟨some 25, (some (21, false)), .prim (.un .not (.tmp 24))⟩,
 ⟨some 26, none, .prim (.pick (.tmp 21) (.const (.bool true)) (.tmp 25))⟩,
 ⟨some 27, none, .prim (.mov (.tmp 26))⟩,
 ⟨some 28, (some (27, false)), .prim (.fadr 2 (.tmp 1))⟩,
 ⟨some 29, (some (27, false)), .prim (.load 3 true (.tmp 28))⟩,
 ⟨some 30, (some (27, false)), .call (.func 107) [(.tmp 29)]⟩,
 ⟨some 31, (some (27, false)), .prim (.un .not (.tmp 30))⟩,
 ⟨some 32, none, .prim (.pick (.tmp 27) (.const (.bool true)) (.tmp 31))⟩,
 ⟨some 33, none, .prim (.mov (.tmp 32))⟩,
 ⟨some 34, (some (33, false)), .prim (.fadr 5 (.tmp 1))⟩,
 ⟨some 35, (some (33, false)), .prim (.load 1 false (.tmp 34))⟩,
 ⟨some 36, (some (33, false)), .prim (.lenv (.tmp 35))⟩,
 ⟨some 37, (some (33, false)), .prim (.bin false .gtr (.tmp 36) (.const (.int .i64 4)))⟩,
 ⟨some 38, none, .prim (.pick (.tmp 33) (.const (.bool true)) (.tmp 37))⟩])
 (.cond (.tmp 38)
 (.seq (.ops [⟨some 2, none, .prim (.mov (.const (.bool false)))⟩])
 .ret)
 .skip))
 (.seq (.seq (.ops [⟨some 39, none, .prim (.fadr 5 (.tmp 1))⟩,
 ⟨some 40, none, .prim (.load 1 false (.tmp 39))⟩,
 ⟨some 41, none, .prim (.lenv (.tmp 40))⟩,
 ⟨some 42, none, .prim (.mov (.const (.int .i64 0)))⟩])
 (.block 0 (.loop [0, 2, 3, 4, 5, 6, 7, 8, 9, 10, 11, 12, 13, 14, 15, 16, 17, 18, 19, 20, 21, 22, 23, 24, 25, 26, 27, 28, 29, 30, 31, 32, 33, 34, 35, 36, 37, 38, 39, 43, 44, 45, 46, 47, 48, 49, 50, 51, 52, 53, 54, 55, 56, 57, 58, 59, 60, 61, 62, 63, 64] (.seq (.ops [⟨some 43, none, .prim (.bin false .lss (.tmp 42) (.tmp 41))⟩])
 (.seq (.cond (.tmp 43)
 .skip
 (.exit 0))
 (.seq (.block 1 (.seq (.ops [⟨some 44, none, .prim (.mov (.tmp 42))⟩,
 ⟨some 45, none, .prim (.iadrs 1 (.tmp 40) (.tmp 42))⟩,
 ⟨some 46, none, .prim (.load 1 false (.tmp 45))⟩,
 ⟨some 3, none, .prim (.mov (.tmp 44))⟩,
 ⟨some 4, none, .prim (.mov (.tmp 46))⟩])
 (.seq (.ops [⟨some 47, none, .prim (.mov (.tmp 4))⟩,
 ⟨some 48, none, .call (.func 108) [(.tmp 47)]⟩,
 ⟨some 49, none, .prim (.un .not (.tmp 48))⟩,
 ⟨some 50, none, .prim (.mov (.tmp 49))⟩,
 ⟨some 51, (some (50, false)), .prim (.mov (.tmp 3))⟩,
 ⟨some 52, (some (50, false)), .prim (.bin false .gtr (.tmp 51) (.const (.int .i64 0)))⟩,
 ⟨some 53, (some (50, false)), .prim (.mov (.tmp 52))⟩,
 ⟨some 54, (some (53, true)), .prim (.mov (.tmp 4))⟩,
 ⟨some 55, (some (53, true)), .prim (.fadr 5 (.tmp 1))⟩,
 ⟨some 56, (some (53, true)), .prim (.load 1 false (.tmp 55))⟩,
 ⟨some 57, (some (53, true)), .prim (.mov (.tmp 3))⟩,
 ⟨some 58, (some (53, true)), .prim (.bin false .sub (.tmp 57) (.const (.int .i64 1)))⟩,
 ⟨some 59, (some (53, true)), .prim (.iadrs 1 (.tmp 56) (.tmp 58))⟩,
 ⟨some 60, (some (53, true)), .prim (.load 1 false (.tmp 59))⟩,
 ⟨some 61, (some (53, true)), .prim (.bin false .leq (.tmp 54) (.tmp 60))⟩,
 ⟨some 62, (some (50, false)), .prim (.pick (.tmp 53) (.tmp 61) (.const (.bool false)))⟩,
 ⟨some 63, none, .prim (.pick (.tmp 50) (.const (.bool true)) (.tmp 62))⟩])
 (.cond (.tmp 63)
 (.seq (.ops [⟨some 2, none, .prim (.mov (.const (.bool false)))⟩])
 .ret)
 .skip))))
 (.ops [⟨some 64, none, .prim (.bin false .add (.tmp 42) (.const (.int .i64 1)))⟩,
 ⟨some 42, none, .prim (.mov (.tmp 64))⟩])))))))
 (.seq (.ops [⟨some 2, none, .prim (.mov (.const (.bool true)))⟩])
 .ret))))
def o51 : List Tmp := []
def r51 : List RV := [.tmp 2]
theorem t51 : Text Tryz.prog 51 o51 c51 r51 65 := ⟨⟨Tryz.f51, _, by kernel_rfl, by kernel_rfl, rfl, by kernel_rfl, by kernel_rfl, rfl⟩, by kernel_rfl⟩
def c52 : ACode :=
 (.seq (.ops [⟨some 3, none, .prim (.boxr (.tmp 0))⟩,
 ⟨some 4, none, .prim (.boxr (.tmp 1))⟩,
 ⟨some 5, none, .prim (.boxr (.tmp 2))⟩,
 ⟨some 6, none, .prim (.mov (.const (.bool false)))⟩])
 (.seq (.draw [⟨⟨some 7, none, .prim (.load 6 true (.tmp 3))⟩, [], false, 0, 0⟩,
 ⟨⟨some 8, none, .prim (.load 3 true (.tmp 5))⟩, [], false, 0, 0⟩,
 ⟨⟨some 9, none, .call (.func 109) [(.tmp 7), (.tmp 8)]⟩, [0, 1], true, 0, 0⟩,
 ⟨⟨some 10, none, .prim (.mov (.tmp 9))⟩, [0, 1, 2], false, 1, 1⟩,
 ⟨⟨some 11, (some (10, true)), .prim (.load 6 true (.tmp 3))⟩, [0, 1, 2, 3], false, 1, 1⟩,
 ⟨⟨some 12, (some (10, true)), .prim (.load 3 true (.tmp 4))⟩, [0, 1, 2, 3], false, 1, 1⟩,
 ⟨⟨some 13, (some (10, true)), .call (.func 110) [(.tmp 11), (.tmp 12)]⟩, (List.range 6), true, 0, 0⟩,
 ⟨⟨some 14, none, .prim (.pick (.tmp 10) (.tmp 13) (.const (.bool false)))⟩, (List.range 7), false, 2, 2⟩,
 ⟨⟨some 15, none, .prim (.mov (.tmp 14))⟩, (List.range 8), false, 2, 2⟩,
 ⟨⟨some 16, (some (15, true)), .prim (.load 6 true (.tmp 3))⟩, (List.range 9), false, 2, 2⟩,
 ⟨⟨some 17, (some (15, true)), .prim (.load 3 true (.tmp 5))⟩, (List.range 9), false, 2, 2⟩,
 ⟨⟨some 18, (some (15, true)), .call (.func 110) [(.tmp 16), (.tmp 17)]⟩, (List.range 11), true, 0, 0⟩,
 ⟨⟨some 19, (some (15, true)), .prim (.un .not (.tmp 18))⟩, (List.range 12), false, 3, 3⟩,
 ⟨⟨some 20, none, .prim (.pick (.tmp 15) (.tmp 19) (.const (.bool false)))⟩, (List.range 13), false, 3, 3⟩,
 ⟨⟨some 21, none, .prim (.mov (.tmp 20))⟩, (List.range 14), false, 3, 3⟩,
 ⟨⟨some 22, (some (21, true)), .prim (.load 6 true (.tmp 3))⟩, (List.range 15), false, 3, 3⟩,
 ⟨⟨some 23, (some (21, true)), .prim (.load 3 true (.tmp 4))⟩, (List.range 15), false, 3, 3⟩,
 ⟨⟨some 24, (some (21, true)), .call (.func 111) [(.tmp 22), (.tmp 23)]⟩, (List.range 17), true, 0, 0⟩,
 ⟨⟨some 25, (some (21, true)), .prim (.load 6 true (.tmp 3))⟩, (List.range 15), false, 3, 4⟩,
 ⟨⟨some 26, (some (21, true)), .prim (.load 3 true (.tmp 5))⟩, (List.range 15), false, 3, 4⟩,
 ⟨⟨some 27, (some (21, true)), .call (.func 111) [(.tmp 25), (.tmp 26)]⟩, (List.range 20), true, 0, 0⟩,
 ⟨⟨some 28, (some (21, true)), .prim (.bin false .eql (.tmp 24) (.tmp 27))⟩, (List.range 21), false, 5, 5⟩,
 ⟨⟨some 29, none, .prim (.pick (.tmp 21) (.tmp 28) (.const (.bool false)))⟩, (List.range 22), false, 5, 5⟩,
 ⟨⟨some 6, none, .prim (.mov (.tmp 29))⟩, (List.range 23), false, 5, 5⟩])
 .ret))
def o52 : List Tmp := []
def r52 : List RV := [.tmp 6]
theorem t52 : Text Tryz.prog 52 o52 c52 r52 30 := ⟨⟨Tryz.f52, _, by kernel_rfl, by kernel_rfl, rfl, by kernel_rfl, by kernel_rfl, rfl⟩, by kernel_rfl⟩
def c80 : ACode :=
 (.seq (.ops [⟨some 1, none, .prim (.boxr (.tmp 0))⟩,
 ⟨some 2, none, .prim (.allocm [.pl (.bool false), .pl (.float .f64 0), .pl (.float .f64 0)])⟩])
 (.seq (.ops [⟨some 4, none, .prim (.fadr 1 (.tmp 1))⟩,
 ⟨some 5, none, .prim (.load 1 false (.tmp 4))⟩,
 ⟨some 6, none, .prim (.fadr 2 (.tmp 1))⟩,
 ⟨some 7, none, .prim (.load 1 false (.tmp 6))⟩,
 ⟨some 8, none, .prim (.build [.pl (.bool false), .pl (.float .f64 0), .pl (.float .f64 0)] [(1, 1, (.tmp 5)), (2, 1, (.tmp 7))])⟩,
 ⟨some 3, none, .prim (.allocm [.pl (.bool false), .pl (.float .f64 0), .pl (.float .f64 0)])⟩,
 ⟨none, none, .prim (.store 3 (.tmp 3) (.tmp 8))⟩])
 (.seq (.seq (.ops [⟨some 9, none, .prim (.fadr 0 (.tmp 1))⟩,
 ⟨some 10, none, .prim (.load 1 false (.tmp 9))⟩,
 ⟨some 11, none, .prim (.bin false .rem (.tmp 10) (.const (.int .i64 3)))⟩,
 ⟨some 12, none, .prim (.bin false .eql (.tmp 11) (.const (.int .i64 0)))⟩,
 ⟨some 13, none, .prim (.mov (.tmp 12))⟩,
 ⟨some 14, (some (13, false)), .prim (.fadr 1 (.tmp 3))⟩,
 ⟨some 15, (some (13, false)), .prim (.load 1 false (.tmp 14))⟩,
 ⟨some 16, (some (13, false)), .prim (.fadr 1 (.tmp 3))⟩,
 ⟨some 17, (some (13, false)), .prim (.load 1 false (.tmp 16))⟩,
 ⟨some 18, (some (13, false)), .prim (.bin false .neq (.tmp 15) (.tmp 17))⟩,
 ⟨some 19, none, .prim (.pick (.tmp 13) (.const (.bool true)) (.tmp 18))⟩,
 ⟨some 20, none, .prim (.mov (.tmp 19))⟩,
 ⟨some 21, (some (20, false)), .prim (.fadr 2 (.tmp 3))⟩,
 ⟨some 22, (some (20, false)), .prim (.load 1 false (.tmp 21))⟩,
 ⟨some 23, (some (20, false)), .prim (.fadr 2 (.tmp 3))⟩,
 ⟨some 24, (some (20, false)), .prim (.load 1 false (.tmp 23))⟩,
 ⟨some 25, (some (20, false)), .prim (.bin false .neq (.tmp 22) (.tmp 24))⟩,
 ⟨some 26, none, .prim (.pick (.tmp 20) (.const (.bool true)) (.tmp 25))⟩])
 (.cond (.tmp 26)
 (.seq (.ops [⟨some 27, none, .prim (.build [.pl (.bool false), .pl (.float .f64 0), .pl (.float .f64 0)] [(0, 1, (.const (.bool true)))])⟩,
 ⟨none, none, .prim (.store 3 (.tmp 2) (.tmp 27))⟩])
 .ret)
 .skip))
 (.seq (.seq (.ops [⟨some 28, none, .prim (.fadr 2 (.tmp 3))⟩,
 ⟨some 29, none, .prim (.load 1 false (.tmp 28))⟩,
 ⟨some 30, none, .prim (.fadr 1 (.tmp 3))⟩,
 ⟨some 31, none, .prim (.load 1 false (.tmp 30))⟩,
 ⟨some 32, none, .prim (.bin false .lss (.tmp 29) (.tmp 31))⟩])
 (.cond (.tmp 32)
 (.ops [⟨some 33, none, .prim (.fadr 2 (.tmp 3))⟩,
 ⟨some 34, none, .prim (.load 1 false (.tmp 33))⟩,
 ⟨some 35, none, .prim (.fadr 1 (.tmp 3))⟩,
 ⟨some 36, none, .prim (.load 1 false (.tmp 35))⟩,
 ⟨some 37, none, .prim (.fadr 1 (.tmp 3))⟩,
 ⟨none, none, .prim (.store 1 (.tmp 37) (.tmp 34))⟩,
 ⟨some 38, none, .prim (.fadr 2 (.tmp 3))⟩,
 ⟨none, none, .prim (.store 1 (.tmp 38) (.tmp 36))⟩])
 .skip))
 (.seq (.ops [⟨some 39, none, .prim (.load 3 true (.tmp 3))⟩,
 ⟨none, none, .prim (.store 3 (.tmp 2) (.tmp 39))⟩])
 .ret)))))
def o80 : List Tmp := [2, 3]
def r80 : List RV := [.cell 2 3 true]
theorem t80 : Text Tryz.prog 80 o80 c80 r80 40 := ⟨⟨Tryz.f80, _, by kernel_rfl, by kernel_rfl, rfl, by kernel_rfl, by kernel_rfl, rfl⟩, by kernel_rfl⟩
def c94 : ACode :=
 (.seq (.ops [⟨some 2, none, .prim (.mov (.const (.int .u64 0)))⟩])
 (.seq (.seq (.ops [⟨some 3, none, .prim (.mov (.tmp 0))⟩,
 ⟨some 4, none, .call (.func 132) [(.tmp 3)]⟩])
 (.cond (.tmp 4)
 (.seq (.ops [⟨some 2, none, .prim (.mov (.const (.int .u64 9221120237041090561)))⟩])
 .ret)
 .skip))
 (.seq (.ops [⟨some 5, none, .prim (.mov (.tmp 0))⟩,
 ⟨some 6, none, .call (.func 47) [(.tmp 5)]⟩,
 ⟨some 2, none, .prim (.mov (.tmp 6))⟩])
 .ret)))
def o94 : List Tmp := []
def r94 : List RV := [.tmp 2]
theorem t94 : Text Tryz.prog 94 o94 c94 r94 7 := ⟨⟨Tryz.f94, _, by kernel_rfl, by kernel_rfl, rfl, by kernel_rfl, by kernel_rfl, rfl⟩, by kernel_rfl⟩
def c107 : ACode :=
 (.seq (.ops [⟨some 1, none, .prim (.boxr (.tmp 0))⟩,
 ⟨some 2, none, .prim (.mov (.const (.bool false)))⟩])
 (.seq (.seq (.ops [⟨some 3, none, .prim (.fadr 0 (.tmp 1))⟩,
 ⟨some 4, none, .prim (.load 1 false (.tmp 3))⟩])
 (.cond (.tmp 4)
 (.seq (.ops [⟨some 5, none, .prim (.fadr 1 (.tmp 1))⟩,
 ⟨some 6, none, .prim (.load 1 false (.tmp 5))⟩,
 ⟨some 7, none, .call (.func 94) [(.tmp 6)]⟩,
 ⟨some 8, none, .prim (.bin false .eql (.tmp 7) (.const (.int .u64 0)))⟩,
 ⟨some 9, none, .prim (.mov (.tmp 8))⟩,
 ⟨some 10, (some (9, true)), .prim (.fadr 2 (.tmp 1))⟩,
 ⟨some 11, (some (9, true)), .prim (.load 1 false (.tmp 10))⟩,
 ⟨some 12, (some (9, true)), .call (.func 94) [(.tmp 11)]⟩,
 ⟨some 13, (some (9, true)), .prim (.bin false .eql (.tmp 12) (.const (.int .u64 0)))⟩,
 ⟨some 14, none, .prim (.pick (.tmp 9) (.tmp 13) (.const (.bool false)))⟩,
 ⟨some 2, none, .prim (.mov (.tmp 14))⟩])
 .ret)
 .skip))
 (.seq (.ops [⟨some 15, none, .prim (.fadr 1 (.tmp 1))⟩,
 ⟨some 16, none, .prim (.load 1 false (.tmp 15))⟩,
 ⟨some 17, none, .prim (.fadr 2 (.tmp 1))⟩,
 ⟨some 18, none, .prim (.load 1 false (.tmp 17))⟩,
 ⟨some 19, none, .prim (.bin false .leq (.tmp 16) (.tmp 18))⟩,
 ⟨some 2, none, .prim (.mov (.tmp 19))⟩])
 .ret)))
def o107 : List Tmp := []
def r107 : List RV := [.tmp 2]
theorem t107 : Text Tryz.prog 107 o107 c107 r107 20 := ⟨⟨Tryz.f107, _, by kernel_rfl, by kernel_rfl, rfl, by kernel_rfl, by kernel_rfl, rfl⟩, by kernel_rfl⟩
def c109 : ACode :=
 (.seq (.ops [⟨some 2, none, .prim (.boxr (.tmp 0))⟩,
 ⟨some 3, none, .prim (.boxr (.tmp 1))⟩,
 ⟨some 4, none, .prim (.mov (.const (.bool false)))⟩])
 (.seq (.ops [⟨some 5, none, .prim (.load 6 true (.tmp 2))⟩,
 ⟨some 6, none, .call (.func 145) [(.tmp 5)]⟩,
 ⟨some 7, none, .prim (.mov (.tmp 6))⟩,
 ⟨some 8, (some (7, true)), .prim (.fadr 1 (.tmp 2))⟩,
 ⟨some 9, (some (7, true)), .prim (.load 1 false (.tmp 8))⟩,
 ⟨some 10, (some (7, true)), .prim (.fadr 1 (.tmp 3))⟩,
 ⟨some 11, (some (7, true)), .prim (.load 1 false (.tmp 10))⟩,
 ⟨some 12, (some (7, true)), .call (.func 146) [(.tmp 9), (.tmp 11)]⟩,
 ⟨some 13, none, .prim (.pick (.tmp 7) (.tmp 12) (.const (.bool false)))⟩,
 ⟨some 4, none, .prim (.mov (.tmp 13))⟩])
 .ret))
def o109 : List Tmp := []
def r109 : List RV := [.tmp 4]
theorem t109 : Text Tryz.prog 109 o109 c109 r109 14 := ⟨⟨Tryz.f109, _, by kernel_rfl, by kernel_rfl, rfl, by kernel_rfl, by kernel_rfl, rfl⟩, by kernel_rfl⟩
def c110 : ACode :=
 (.seq (.ops [⟨some 2, none, .prim (.boxr (.tmp 0))⟩,
 ⟨some 3, none, .prim (.boxr (.tmp 1))⟩,
 ⟨some 4, none, .prim (.mov (.const (.bool false)))⟩])
 (.seq (.ops [⟨some 5, none, .prim (.load 6 true (.tmp 2))⟩,
 ⟨some 6, none, .call (.func 145) [(.tmp 5)]⟩,
 ⟨some 7, none, .prim (.mov (.tmp 6))⟩,
 ⟨some 8, (some (7, true)), .prim (.fadr 0 (.tmp 2))⟩,
 ⟨some 9, (some (7, true)), .prim (.load 1 false (.tmp 8))⟩,
 ⟨some 10, (some (7, true)), .prim (.fadr 1 (.tmp 3))⟩,
 ⟨some 11, (some (7, true)), .prim (.load 1 false (.tmp 10))⟩,
 ⟨some 12, (some (7, true)), .call (.func 146) [(.tmp 9), (.tmp 11)]⟩,
 ⟨some 13, none, .prim (.pick (.tmp 7) (.tmp 12) (.const (.bool false)))⟩,
 ⟨some 14, none, .prim (.mov (.tmp 13))⟩,
 ⟨some 15, (some (14, true)), .prim (.fadr 2 (.tmp 2))⟩,
 ⟨some 16, (some (14, true)), .prim (.load 3 true (.tmp 15))⟩,
 ⟨some 17, (some (14, true)), .prim (.fadr 2 (.tmp 3))⟩,
 ⟨some 18, (some (14, true)), .prim (.load 1 false (.tmp 17))⟩,
 ⟨some 19, (some (14, true)), .call (.func 147) [(.tmp 16), (.tmp 18)]⟩,
 ⟨some 20, none, .prim (.pick (.tmp 14) (.tmp 19) (.const (.bool false)))⟩,
 ⟨some 4, none, .prim (.mov (.tmp 20))⟩])
 .ret))
def o110 : List Tmp := []
def r110 : List RV := [.tmp 4]
theorem t110 : Text Tryz.prog 110 o110 c110 r110 21 := ⟨⟨Tryz.f110, _, by kernel_rfl, by kernel_rfl, rfl, by kernel_rfl, by kernel_rfl, rfl⟩, by kernel_rfl⟩
def c111 : ACode :=
 (.seq (.ops [⟨some 2, none, .prim (.boxr (.tmp 0))⟩,
 ⟨some 3, none, .prim (.boxr (.tmp 1))⟩,
 ⟨some 4, none, .prim (.mov (.const (.string (ByteArray.mk #[]))))⟩])
 (.seq (.ops [⟨some 5, none, .prim (.fadr 1 (.tmp 3))⟩,
 ⟨some 6, none, .prim (.load 1 false (.tmp 5))⟩,
 ⟨some 7, none, .prim (.fadr 5 (.tmp 2))⟩,
 ⟨some 8, none, .prim (.load 1 false (.tmp 7))⟩,
 ⟨some 9, none, .call (.func 148) [(.tmp 6), (.tmp 8)]⟩,
 ⟨some 4, none, .prim (.mov (.tmp 9))⟩])
 .ret))
def o111 : List Tmp := []
def r111 : List RV := [.tmp 4]
theorem t111 : Text Tryz.prog 111 o111 c111 r111 10 := ⟨⟨Tryz.f111, _, by kernel_rfl, by kernel_rfl, rfl, by kernel_rfl, by kernel_rfl, rfl⟩, by kernel_rfl⟩
def c145 : ACode :=
 (.seq (.ops [⟨some 1, none, .prim (.boxr (.tmp 0))⟩,
 ⟨some 2, none, .prim (.mov (.const (.bool false)))⟩])
 (.seq (.ops [⟨some 3, none, .prim (.load 6 true (.tmp 1))⟩,
 ⟨some 4, none, .call (.func 51) [(.tmp 3)]⟩,
 ⟨some 5, none, .prim (.mov (.tmp 4))⟩,
 ⟨some 6, (some (5, true)), .prim (.load 6 true (.tmp 1))⟩,
 ⟨some 7, (some (5, true)), .call (.func 164) [(.tmp 6)]⟩,
 ⟨some 8, (some (5, true)), .prim (.un .not (.tmp 7))⟩,
 ⟨some 9, none, .prim (.pick (.tmp 5) (.tmp 8) (.const (.bool false)))⟩,
 ⟨some 2, none, .prim (.mov (.tmp 9))⟩])
 .ret))
def o145 : List Tmp := []
def r145 : List RV := [.tmp 2]
theorem t145 : Text Tryz.prog 145 o145 c145 r145 10 := ⟨⟨Tryz.f145, _, by kernel_rfl, by kernel_rfl, rfl, by kernel_rfl, by kernel_rfl, rfl⟩, by kernel_rfl⟩
def c147 : ACode :=
 (.seq (.ops [⟨some 2, none, .prim (.boxr (.tmp 0))⟩,
 ⟨some 4, none, .prim (.mov (.const (.bool false)))⟩])
 (.seq (.ops [⟨some 5, none, .prim (.load 3 true (.tmp 2))⟩,
 ⟨some 6, none, .call (.func 107) [(.tmp 5)]⟩,
 ⟨some 7, none, .prim (.mov (.tmp 6))⟩,
 ⟨some 8, (some (7, true)), .prim (.fadr 0 (.tmp 2))⟩,
 ⟨some 9, (some (7, true)), .prim (.load 1 false (.tmp 8))⟩,
 ⟨some 10, (some (7, true)), .prim (.mov (.tmp 9))⟩,
 ⟨some 11, (some (10, false)), .prim (.fadr 1 (.tmp 2))⟩,
 ⟨some 12, (some (10, false)), .prim (.load 1 false (.tmp 11))⟩,
 ⟨some 13, (some (10, false)), .prim (.mov (.tmp 1))⟩,
 ⟨some 14, (some (10, false)), .prim (.bin false .leq (.tmp 12) (.tmp 13))⟩,
 ⟨some 15, (some (10, false)), .prim (.mov (.tmp 14))⟩,
 ⟨some 16, (some (15, true)), .prim (.mov (.tmp 1))⟩,
 ⟨some 17, (some (15, true)), .prim (.fadr 2 (.tmp 2))⟩,
 ⟨some 18, (some (15, true)), .prim (.load 1 false (.tmp 17))⟩,
 ⟨some 19, (some (15, true)), .prim (.bin false .leq (.tmp 16) (.tmp 18))⟩,
 ⟨some 20, (some (10, false)), .prim (.pick (.tmp 15) (.tmp 19) (.const (.bool false)))⟩,
 ⟨some 21, (some (7, true)), .prim (.pick (.tmp 10) (.const (.bool true)) (.tmp 20))⟩,
 ⟨some 22, none, .prim (.pick (.tmp 7) (.tmp 21) (.const (.bool false)))⟩,
 ⟨some 4, none, .prim (.mov (.tmp 22))⟩])
 .ret))
def o147 : List Tmp := []
def r147 : List RV := [.tmp 4]
theorem t147 : Text Tryz.prog 147 o147 c147 r147 23 := ⟨⟨Tryz.f147, _, by kernel_rfl, by kernel_rfl, rfl, by kernel_rfl, by kernel_rfl, rfl⟩, by kernel_rfl⟩
def c164 : ACode :=
 (.seq (.ops [⟨some 1, none, .prim (.boxr (.tmp 0))⟩,
 ⟨some 2, none, .prim (.mov (.const (.bool false)))⟩])
 (.seq (.ops [⟨some 3, none, .prim (.load 6 true (.tmp 1))⟩,
 ⟨some 4, none, .call (.func 51) [(.tmp 3)]⟩,
 ⟨some 5, none, .prim (.mov (.tmp 4))⟩,
 ⟨some 6, (some (5, true)), .prim (.fadr 0 (.tmp 1))⟩,
 ⟨some 7, (some (5, true)), .prim (.load 1 false (.tmp 6))⟩,
 ⟨some 8, (some (5, true)), .call (.func 174) [(.tmp 7)]⟩,
 ⟨some 9, (some (5, true)), .prim (.mov (.tmp 8))⟩,
 ⟨some 10, (some (9, false)), .prim (.fadr 1 (.tmp 1))⟩,
 ⟨some 11, (some (9, false)), .prim (.load 1 false (.tmp 10))⟩,
 ⟨some 12, (some (9, false)), .call (.func 174) [(.tmp 11)]⟩,
 ⟨some 13, (some (5, true)), .prim (.pick (.tmp 9) (.const (.bool true)) (.tmp 12))⟩,
 ⟨some 14, none, .prim (.pick (.tmp 5) (.tmp 13) (.const (.bool false)))⟩,
 ⟨some 2, none, .prim (.mov (.tmp 14))⟩])
 .ret))
def o164 : List Tmp := []
def r164 : List RV := [.tmp 2]
theorem t164 : Text Tryz.prog 164 o164 c164 r164 15 := ⟨⟨Tryz.f164, _, by kernel_rfl, by kernel_rfl, rfl, by kernel_rfl, by kernel_rfl, rfl⟩, by kernel_rfl⟩
end Go.Proofs.YtmkmhhjkdaklbaaGreat
namespace Go.Proofs.YtmkmhhjkdaklbaaGreat
open Go Go.Ab Go.Cod
set_option maxRecDepth 100000
abbrev Fl (n : Nat) : AV := .pl (.float .f64 n)
structure RuM where
 src : List Mtr
 tgt : List Mtr
 any : Bool
 lo : Nat
 hi : Nat
 eq : List ByteArray
def txs (l : List ByteArray) : List AV := l.map fun s => Sx s
def ruV (r : RuM) : AV := .agg [.sl 3 (mvs3 r.src), .sl 3 (mvs3 r.tgt), Bo r.any, Fl r.lo, Fl r.hi, .sl 1 (txs r.eq)]
theorem txs_len (l : List ByteArray) : (txs l).length = l.length := List.length_map ..
theorem txs_get (l : List ByteArray) (i : Nat) (h : i < l.length) : (txs l)[i]? = some (Sx l[i]) := by simp [txs, h]
theorem txs_D (l : List ByteArray) (i : Nat) (h : i < l.length) : (txs l)[i]? = some (Sx (l.getD i ⟨#[]⟩)) := by
 rw [txs_get l i h, List.getD_eq_getElem?_getD, List.getElem?_eq_getElem h]; rfl
def leF (a b : Nat) : Bool := FloatKind.f64.format.order a b == some .lt || FloatKind.f64.format.order a b == some .eq
theorem leF_def (a b : Nat) : (FloatKind.f64.format.order a b == some .lt || FloatKind.f64.format.order a b == some .eq) = leF a b := rfl
def nanF (a : Nat) : Bool := FloatKind.f64.format.order a a != some .eq
theorem nanF_def (a : Nat) : (FloatKind.f64.format.order a a != some .eq) = nanF a := rfl
def bitsF (a : Nat) : Nat := if nanF a then 9221120237041090561 else a
def mayB (any : Bool) (lo hi : Nat) : Bool := if any then (((bitsF lo : Nat) : Int) == 0) && (((bitsF hi : Nat) : Int) == 0) else leF lo hi
def eqOk (e : List ByteArray) (i : Nat) : Bool := nameB (e.getD i ⟨#[]⟩) && !(decide (0 < i) && leS (e.getD i ⟨#[]⟩) (e.getD (i - 1) ⟨#[]⟩))
def eqB (e : List ByteArray) : Bool := decide (e.length ≤ 4) && (List.range e.length).all (eqOk e)
def ruIs (r : RuM) : Bool := !(((r.src.length : Nat) : Int) == 0) && (!(((r.tgt.length : Nat) : Int) == 0) && (listB r.src && (listB r.tgt && (mayB r.any r.lo r.hi && eqB r.eq))))
section
variable (σ : St)
theorem no_ans (a : Nat) : Ans Tryz.prog 132 [Fl a] σ (Bo (nanF a)) σ := by
 refine Ans.of_run t132 ?_
 simp -implicitDefEqProofs only [c132, r132, go_sem, nanF_def]
 exact Fini.ret rfl
theorem f64bits_ans (a : Nat) : Ans Tryz.prog 47 [Fl a] σ (UN a) σ := ext_bits.ok _ _ _ _ rfl
theorem bits_ans (a : Nat) : Ans Tryz.prog 94 [Fl a] σ (UN (bitsF a)) σ := by
 refine Ans.of_run t94 ?_
 simp -implicitDefEqProofs only [c94, r94, go_sem]
 refine CO.intro (no_ans σ a) ?_
 unfold bitsF
 cases nanF a with
 | true =>
   simp -implicitDefEqProofs only [go_sem]
   exact Fini.ret rfl
 | false =>
   simp -implicitDefEqProofs only [go_sem]
   refine CO.intro (f64bits_ans σ a) ?_
   simp -implicitDefEqProofs only [go_sem]
   exact Fini.ret rfl
theorem may_ans (any : Bool) (lo hi : Nat) : Ans Tryz.prog 107 [.agg [Bo any, Fl lo, Fl hi]] σ (Bo (mayB any lo hi)) σ := by
 refine Ans.of_run t107 ?_
 unfold mayB
 cases any with
 | true =>
   simp -implicitDefEqProofs only [c107, r107, go_sem]
   refine CO.intro (bits_ans σ lo) ?_
   cases h : (((bitsF lo : Nat) : Int) == 0) with
   | false =>
     simp -implicitDefEqProofs only [go_sem, h]
     exact Fini.ret rfl
   | true =>
     simp -implicitDefEqProofs only [go_sem, h]
     refine CO.intro (bits_ans σ hi) ?_
     simp -implicitDefEqProofs only [go_sem, h]
     exact Fini.ret rfl
 | false =>
   simp -implicitDefEqProofs only [c107, r107, go_sem, leF_def]
   exact Fini.ret rfl
theorem ruis_ans (r : RuM) : Ans Tryz.prog 51 [ruV r] σ (Bo (ruIs r)) σ := by
 obtain ⟨src, tgt, any, lo, hi, eq⟩ := r
 have d4 : decide ((4 : Int) < eq.length) = decide (4 < eq.length) := decNN 4 _
 refine Ans.of_run t51 ?_
 unfold ruIs ruV
 simp only
 cases h1 : (((src.length : Nat) : Int) == 0) with
 | true =>
   simp -implicitDefEqProofs only [c51, r51, go_sem, mvs3_len, h1]
   exact Fini.ret rfl
 | false =>
 cases h2 : (((tgt.length : Nat) : Int) == 0) with
 | true =>
   simp -implicitDefEqProofs only [c51, r51, go_sem, mvs3_len, h1, h2]
   exact Fini.ret rfl
 | false =>
 simp -implicitDefEqProofs only [c51, r51, go_sem, mvs3_len, h1, h2]
 refine CO.intro (list_any σ src) ?_
 cases h3 : listB src with
 | false =>
   simp -implicitDefEqProofs only [go_sem]
   exact Fini.ret rfl
 | true =>
 simp -implicitDefEqProofs only [go_sem]
 refine CO.intro (list_any σ tgt) ?_
 cases h4 : listB tgt with
 | false =>
   simp -implicitDefEqProofs only [go_sem]
   exact Fini.ret rfl
 | true =>
 simp -implicitDefEqProofs only [go_sem]
 refine CO.intro (may_ans σ any lo hi) ?_
 cases h5 : mayB any lo hi with
 | false =>
   simp -implicitDefEqProofs only [go_sem]
   exact Fini.ret rfl
 | true =>
 unfold eqB
 by_cases h6 : eq.length ≤ 4
 · have x4 : decide (4 < eq.length) = false := decide_eq_false (by omega)
   rw [decide_eq_true h6]
   simp -implicitDefEqProofs only [go_sem, txs_len, d4, x4]
   refine Go.Ab.L.scan eq.length (eqOk eq) (fun i => mkE 65 [(1, .rp [.sl 3 (mvs3 src), .sl 3 (mvs3 tgt), Bo any, Fl lo, Fl hi, .sl 1 (txs eq)]), (40, .sl 1 (txs eq)), (41, I eq.length), (42, I i)]) (fun _ => σ) ?_ ?_ rfl rfl
   · intro i hi hp J hJ
     have hx := txs_D eq i hi
     have hF : eqOk eq i = false → (List.range eq.length).all (eqOk eq) = false := fun h => List.all_eq_false.2 ⟨i, List.mem_range.2 hi, by rw [h]; decide⟩
     have hin := wrap_succ (i := i) (by omega)
     have d0 : decide ((0 : Int) < i) = decide (0 < i) := by rw [Bool.eq_iff_iff]; simp
     have hO : eqOk eq i = (nameB (eq.getD i ⟨#[]⟩) && !(decide (0 < i) && leS (eq.getD i ⟨#[]⟩) (eq.getD (i - 1) ⟨#[]⟩))) := rfl
     rw [hO] at hJ hF
     simp -implicitDefEqProofs only [mkE, go_sem, txs_len, nat_lt hi, dec_lt hi, hx]
     refine CO.intro (name_ans' σ _) ?_
     generalize eq.getD i ⟨#[]⟩ = s at hJ hF hx
     cases hb : nameB s with
     | false =>
       rw [hb] at hF
       rw [hF rfl]
       simp -implicitDefEqProofs only [go_sem]
       exact Fini.ret rfl
     | true =>
       rw [hb] at hJ hF
       by_cases hz : i = 0
       · subst hz
         have hgo := hJ rfl
         simp -implicitDefEqProofs only [go_sem, d0, hin]
         exact hgo
       · have hpos : decide (0 < i) = true := decide_eq_true (by omega)
         have hx1 := txs_D eq (i - 1) (by omega)
         have w1 : IntKind.i64.wrap ((i : Int) - 1) = ((i - 1 : Nat) : Int) := by rw [wrapN (by omega) (by omega)]; omega
         have hlt1 : (((i - 1 : Nat) : Int) < eq.length) = True := by simp; omega
         rw [hpos] at hJ hF
         generalize eq.getD (i - 1) ⟨#[]⟩ = s1 at hJ hF hx1
         have hle : (Op.bytesLess s.toList s1.toList || s.toList == s1.toList) = leS s s1 := rfl
         simp -implicitDefEqProofs only [go_sem, d0, hpos, w1, txs_len, hlt1, hx1, hle]
         cases h7 : leS s s1 with
         | true =>
           rw [h7] at hF
           rw [hF rfl]
           simp -implicitDefEqProofs only [go_sem]
           exact Fini.ret rfl
         | false =>
           rw [h7] at hJ
           have hgo := hJ rfl
           simp -implicitDefEqProofs only [go_sem, hin]
           exact hgo
   · intro hp J
     have hd : decide ((eq.length : Int) < eq.length) = false := by simp
     simp -implicitDefEqProofs only [mkE, go_sem, txs_len, hd]
     refine Fini.ret' rfl (bo_congr ?_)
     exact (List.all_eq_true.2 fun i hi => hp i (List.mem_range.1 hi)).symm
 · have x4 : decide (4 < eq.length) = true := decide_eq_true (by omega)
   rw [decide_eq_false h6]
   simp -implicitDefEqProofs only [go_sem, txs_len, d4, x4]
   exact Fini.ret rfl
end
end Go.Proofs.YtmkmhhjkdaklbaaGreat
namespace Go.Proofs.YtmkmhhjkdaklbaaGreat
open Go Go.Ab Go.Cod
set_option maxRecDepth 100000
def mkM (x : UInt8 × ByteArray × ByteArray) : Mtr := ((x.1.toNat : Int), x.2.1, x.2.2)
def mtrR : Rd Mtr := dressR (seqR byteR (seqR (textR 12) (textR 40))) mkM
def listR : Rd (List Mtr) := onlyR (rowR 5 mtrR) listB
def putM (x : Mtr) : Byt := x.1.toNat.toUInt8 :: (txtB x.2.1 ++ txtB x.2.2)
def putL (M : List Mtr) : Byt := laidRow putM M
theorem ends_mtr : EndsR mtrR := ends_dress (ends_seq ends_byte (ends_seq (ends_text 12) (ends_text 40))) _
theorem ends_list : EndsR listR := ends_only (ends_row ends_mtr 5) _
theorem mtr_fits : Fits mtrR putM (fun x => 0 ≤ x.1 ∧ x.1 < 256 ∧ x.2.1.size ≤ 12 ∧ x.2.2.size ≤ 40) := by
 refine dress_fits (seq_fits byte_fits (seq_fits (text_fits (by decide)) (text_fits (by decide)))) (g := fun x => (x.1.toNat.toUInt8, x.2.1, x.2.2)) ?_ ?_
 · rintro ⟨c, n, v⟩ ⟨_, h1, h2⟩
   have := c.toNat_lt
   refine ⟨⟨by simp only [mkM]; omega, by simp only [mkM]; omega, h1, h2⟩, ?_⟩
   simp only [putM, mkM, Int.toNat_natCast, toUInt8_toNat]
   rfl
 · rintro ⟨k, n, v⟩ ⟨h0, h1, h2, h3⟩
   refine ⟨⟨trivial, h2, h3⟩, ?_⟩
   simp only at h0 h1
   have : (k.toNat.toUInt8.toNat : Int) = k := by rw [toNat_toUInt8 (by omega)]; omega
   simp only [mkM, this]
theorem pparse_size {s : ByteArray} (h : (pparse s).2 = true) : s.size ≤ 40 := by
 unfold pparse at h
 rcases Nat.lt_or_ge 40 s.size with h40 | h40
 · exfalso
   have := (fwd_PW s 8 0 true).2 rfl
   simp [h40, this] at h
 · exact h40
theorem isB_kind {k : Int} {nm v : ByteArray} (h : isB k nm v = true) : (1 ≤ k ∧ k ≤ 4) ∧ nm.size ≤ 12 ∧ v.size ≤ 40 := by
 unfold isB nameB at h
 simp only [Bool.and_eq_true, decide_eq_true_eq] at h
 obtain ⟨⟨⟨⟨_, hn⟩, _⟩, _⟩, h2⟩ := h
 split at h2
 · rename_i hl
   unfold likeB at hl
   simp only [Bool.or_eq_true, beq_iff_eq] at hl
   exact ⟨by omega, hn, pparse_size h2⟩
 · simp only [Bool.and_eq_true, Bool.or_eq_true, beq_iff_eq, decide_eq_true_eq] at h2
   exact ⟨by omega, hn, by omega⟩
theorem listB_fits : Fits listR putL (fun M => listB M = true) := by
 refine (only_fits (row_fits (by decide) mtr_fits) listB).weaken fun M => ⟨fun h => h.2, fun h => ⟨?_, h⟩⟩
 unfold listB at h
 simp only [Bool.and_eq_true, decide_eq_true_eq] at h
 refine ⟨h.1, fun x hx => ?_⟩
 obtain ⟨i, hi, rfl⟩ := List.getElem_of_mem hx
 have h2 := List.all_eq_true.1 h.2 i (List.mem_range.2 hi)
 unfold okL isM at h2
 simp only [Bool.and_eq_true] at h2
 have e : M.getD i noM3 = M[i] := by rw [List.getD_eq_getElem?_getD, List.getElem?_eq_getElem hi]; rfl
 rw [e] at h2
 have := isB_kind h2.1
 omega
def mtrS (b : Byt) (q : Nat × Bool) : Mtr × (Nat × Bool) := dressSt (seqSt (runR byteR 0 b) (seqSt (runR (textR 12) ⟨#[]⟩ b) (runR (textR 40) ⟨#[]⟩ b))) mkM q
theorem steps_mtr (b : Byt) : StepsR b mtrR (mtrS b) := steps_dress (steps_seq (steps_run b byteR 0) (steps_seq (steps_run b _ _) (steps_run b _ _) (ends_text 12)) ends_byte) _
def listS (b : Byt) : Nat × Bool → List Mtr × (Nat × Bool) := onlySt (rowSt 5 b (mtrS b)) listB
theorem steps_list (b : Byt) : StepsR b listR (listS b) := steps_only (steps_row (steps_mtr b) ends_mtr 5) _
def readV {α : Type} (r : Option (α × Byt)) (b : Byt) (enc : α → AV) (none_ : AV) : AV := match r with
 | some p => .tup [enc p.1, I (b.length - p.2.length : Nat), Bo true]
 | none => .tup [none_, I 0, Bo false]
theorem runR_le {most : Nat} (b : Byt) (q : Nat × Bool) : (runR (numR most) 0 b q).1 ≤ most := by
 unfold runR
 split
 · exact Nat.zero_le _
 · split
   · exact Nat.zero_le _
   · rename_i p h
     simp only [numR] at h
     cases hg : getN 0 (b.drop q.1) with
     | none => simp [hg] at h
     | some x =>
       simp only [hg, Option.bind_some] at h
       split at h
       · simp only [Option.some.injEq] at h; rw [← h]; assumption
       · cases h
theorem mvs3_snoc (M : List Mtr) (x : Mtr) : mvs3 M ++ [mv3 x] = mvs3 (M ++ [x]) := by simp [mvs3]
theorem bel_tup3 {n : Nat} {x : AV} {i : Int} {c : Bool} (h : Bel n x) : Bel n (.tup [x, I i, Bo c]) := .tup _ fun j hj => by
 have : ∀ y ∈ ([x, I i, Bo c] : List AV), Bel n y := by
  intro y hy
  simp only [List.mem_cons, List.not_mem_nil, or_false] at hy
  rcases hy with rfl | rfl | rfl
  · exact h
  · exact .pl _
  · exact .pl _
 exact this _ (List.getElem_mem hj)
theorem mread_ans0 (σ : St) (b : Byt) (hb : b.length ≤ 50000) : Ans Tryz.prog 56 [.sl 1 (byv b)] σ (readV (listR b) b (fun M => .sl 3 (mvs3 M)) .nils) σ := by
 have hS := (steps_list b).top
 refine Ans.of_run' t56 (fun hbel _ => ?_)
 simp -implicitDefEqProofs only [c56, r56, go_sem]
 refine CO.intro (new_ans σ b) ?_
 simp -implicitDefEqProofs only [go_sem, List.append_assoc, List.length_append]
 generalize hq1 : runR (numR 5) 0 b (0, false) = q1
 have hin0 : Inb b (0, false) := Nat.zero_le _
 have hn := num_ans (σ ++ [rob b (0, false), .row 3 []]) σ.length b (0, false) 5 (by decide) (g0 _ _ _) hin0 hb
 rw [hq1, s0] at hn
 refine CO.intro hn ?_
 have hn5 : q1.1 ≤ 5 := by rw [← hq1]; exact runR_le b _
 have hin1 : Inb b q1.2 := by rw [← hq1]; exact run_inb _ _ _ _ hin0
 simp -implicitDefEqProofs only [go_sem]
 refine Go.Ab.L.count q1.1 (fun i => mkE 40 [(5, .ptr σ.length 0), (6, .osl (σ.length + 1) i), (12, UN q1.1), (13, UN i)]) (fun i => σ ++ [rob b (itSt (mtrS b) q1.2 i).2, .row 3 (mvs3 (itSt (mtrS b) q1.2 i).1)]) ?_ ?_ rfl rfl
 · intro i hi J hJ
   have hitI := itSt_inb (steps_mtr b).inb q1.2 hin1 i
   have hlen := itSt_len (mtrS b) q1.2 i
   simp only [itSt] at hJ
   generalize itSt (mtrS b) q1.2 i = c at hJ hitI hlen ⊢
   obtain ⟨l, q⟩ := c
   simp only at hJ hitI hlen ⊢
   have d0 : decide ((i : Int) < q1.1) = true := dec_lt hi
   have w0 := wrapUN (n := i + 1) (by omega)
   have e0 : ((i : Int) + 1) = ((i + 1 : Nat) : Int) := rfl
   unfold mtrS dressSt seqSt at hJ
   simp only at hJ
   simp -implicitDefEqProofs only [mkE, go_sem, d0]
   have h1 := byte_ans' (σ ++ [rob b q, .row 3 (mvs3 l)]) σ.length b q (g0 _ _ _) hitI hb
   have hi2 := run_inb byteR 0 b q hitI
   generalize runR byteR 0 b q = r1 at h1 hi2 hJ
   rw [s0] at h1
   refine CO.intro h1 ?_
   have h2 := text_ans (σ ++ [rob b r1.2, .row 3 (mvs3 l)]) σ.length b r1.2 12 (by decide) (g0 _ _ _) hi2 hb
   have hi3 := run_inb (textR 12) ⟨#[]⟩ b r1.2 hi2
   generalize runR (textR 12) ⟨#[]⟩ b r1.2 = r2 at h2 hi3 hJ
   rw [s0] at h2
   simp -implicitDefEqProofs only [go_sem, bc]
   refine CO.intro h2 ?_
   have h3 := text_ans (σ ++ [rob b r2.2, .row 3 (mvs3 l)]) σ.length b r2.2 40 (by decide) (g0 _ _ _) hi3 hb
   generalize runR (textR 40) ⟨#[]⟩ b r2.2 = r3 at h3 hJ
   rw [s0] at h3
   simp -implicitDefEqProofs only [go_sem]
   refine CO.intro h3 ?_
   have hl : (mvs3 l).length = i := by rw [mvs3_len, hlen]
   have hw : IntKind.i64.wrap (r1.1.toNat : Int) = (r1.1.toNat : Int) := wrapI (by have := r1.1.toNat_lt; omega)
   have hle : i + 1 ≤ 4294967296 := by omega
   have hsn := mvs3_snoc l (mkM (r1.1, r2.1, r3.1))
   simp -implicitDefEqProofs only [go_sem, hw, g1, s1, hl, hle, List.length_singleton, e0, w0]
   rw [← hsn] at hJ
   exact hJ
 · intro J
   have hitI := itSt_inb (steps_mtr b).inb q1.2 hin1 q1.1
   have hlen := itSt_len (mtrS b) q1.2 q1.1
   have hL : listS b (0, false) = ((itSt (mtrS b) q1.2 q1.1).1, took (itSt (mtrS b) q1.2 q1.1).2 0 (listB (itSt (mtrS b) q1.2 q1.1).1)) := by
    unfold listS onlySt rowSt
    rw [hq1]
   rw [hL] at hS
   generalize itSt (mtrS b) q1.2 q1.1 = c at hS hitI hlen ⊢
   obtain ⟨l, q⟩ := c
   simp only at hS hitI hlen ⊢
   have hl : (mvs3 l).length = q1.1 := by rw [mvs3_len, hlen]
   have d0 : decide ((q1.1 : Int) < q1.1) = false := by simp
   simp -implicitDefEqProofs only [mkE, go_sem, d0, g1, s1, hl]
   refine CO.intro (list_any _ l) ?_
   have h2 := refuse_ans (σ ++ [rob b q, .dead]) σ.length b q (listB l) (g0 _ _ _) hitI hb
   rw [s0] at h2
   simp -implicitDefEqProofs only [go_sem]
   refine CO.intro h2 ?_
   have h3 := end_ans (σ ++ [rob b (took q 0 (listB l)), .dead]) σ.length b (took q 0 (listB l)) (g0 _ _ _)
   simp -implicitDefEqProofs only [go_sem]
   refine CO.intro h3 ?_
   have hbm : Bel σ.length (.sl 3 (mvs3 l)) := bel_mvs3 _ _
   cases hr : listR b with
   | none =>
     have hb2 := hS.2 hr
     rw [hb2]
     simp -implicitDefEqProofs only [go_sem]
     exact Fini.trim2 (σ' := σ) rfl rfl (Nat.le_refl _) (by unfold readV; exact bel_tup3 .nils) hbel
   | some p =>
     obtain ⟨M, t⟩ := p
     have hb2 := hS.1 M t hr
     simp only [Prod.mk.injEq] at hb2
     obtain ⟨rfl, hb2⟩ := hb2
     rw [hb2]
     simp -implicitDefEqProofs only [go_sem]
     refine Fini.trim2 (σ' := σ) rfl rfl (Nat.le_refl _) ?_ hbel
     unfold readV
     exact bel_tup3 hbm
theorem mread_ans (σ : St) (b : Byt) (hb : b.length ≤ 50000) : Ans Tryz.prog 56 [.sl 1 (byv b)] σ (readV (listR b) b (fun M => .sl 3 (mvs3 M)) (.sl 3 [])) σ := by
 refine (mread_ans0 σ b hb).subR ?_
 unfold readV
 cases listR b with
 | none => exact .tup (.cons (.nils 3) (.refl _))
 | some p => exact .refl _
end Go.Proofs.YtmkmhhjkdaklbaaGreat
namespace Go.Proofs.YtmkmhhjkdaklbaaGreat
open Go Go.Ab Go.Cod
set_option maxRecDepth 100000
theorem tmod128 (n : Nat) : ((n : Int).tmod 128) = ((n % 128 : Nat) : Int) := rfl
theorem tdiv128 (n : Nat) : ((n : Int).tdiv 128) = ((n / 128 : Nat) : Int) := rfl
theorem add128 (n : Nat) : IntKind.u8.wrap (((n % 128 % 256 : Nat) : Int) + 128) = ((n % 128 + 128 : Nat) : Int) := by
 have : (((n % 128 % 256 : Nat) : Int) + 128) = ((n % 128 % 256 + 128 : Nat) : Int) := by push_cast; rfl
 rw [this, wrap8N]
 congr 1; omega
def orD (a d s : Nat) : Int := IntKind.u64.wrap ((BitVec.ofInt 64 (a : Int) ||| BitVec.ofInt 64 (IntKind.u64.wrap ((d : Int) * 2 ^ min s 64))).toNat : Int)
theorem orD_eq (a d s : Nat) (ha : a < 2 ^ s) (hs : s < 64) (hd : d * 2 ^ s < 18446744073709551616) : orD a d s = ((a + 2 ^ s * d : Nat) : Int) := or_shl a d s ha hs hd
theorem shl_bound (i c : Nat) (h : i < 9 ∨ i = 9 ∧ c % 128 ≤ 1) : c % 128 * 2 ^ (7 * i) < 18446744073709551616 := by
 rcases h with h | ⟨rfl, h⟩
 · have h4 : c % 128 < 2 ^ 7 := Nat.mod_lt _ (by decide)
   calc c % 128 * 2 ^ (7 * i) < 2 ^ 7 * 2 ^ (7 * i) := Nat.mul_lt_mul_of_pos_right h4 (Nat.two_pow_pos _)
    _ = 2 ^ (7 + 7 * i) := by rw [Nat.pow_add]
    _ ≤ 2 ^ 63 := Nat.pow_le_pow_right (by decide) (by omega)
    _ < 18446744073709551616 := by decide
 · calc c % 128 * 2 ^ (7 * 9) ≤ 1 * 2 ^ 63 := Nat.mul_le_mul_right _ h
   _ < 18446744073709551616 := by decide
section
variable (σ : St)
theorem dput_ans (n : Nat) (hn : n < 18446744073709551616) : Ans Tryz.prog 75 [UN n] σ (.osl σ.length (putN n).length) (σ ++ [.row 1 (byv (putN n))]) := by
 have h10 := putN_len10 hn
 refine Ans.of_run t75 ?_
 simp -implicitDefEqProofs only [c75, r75, go_sem]
 refine Go.Ab.L.intro (α := { p : Nat × Byt // p.1 < 18446744073709551616 ∧ p.2 ++ putN p.1 = putN n }) (fun p => p.1.1) (fun p => mkE 20 [(0, UN p.1.1), (3, .osl σ.length p.1.2.length)]) (fun p => σ ++ [.row 1 (byv p.1.2)]) ?_ ⟨(n, []), hn, rfl⟩ rfl rfl
 rintro ⟨⟨m, pre⟩, hm, hp⟩ J hJ
 have hl : pre.length + (putN m).length ≤ 10 := by rw [← List.length_append, hp]; exact h10
 have hw := wrapUN hm
 have hle : pre.length + 1 ≤ 2 ^ 32 := by omega
 by_cases h : m < 128
 · have d1 : decide ((128 : Int) ≤ m) = false := by simp; omega
   have d2 : IntKind.u8.wrap (m : Int) = m := by rw [wrap8N]; congr 1; omega
   simp -implicitDefEqProofs only [mkE, go_sem, d1, row1, byv_len, List.length_singleton, hle, d2]
   refine Fini.ret3 (n := 0) rfl ?_ ?_
   · show AV.osl σ.length (pre.length + 1) = AV.osl σ.length (putN n).length
     rw [← hp, putN_lt h]; simp
   · rw [List.set_append_right _ _ (Nat.le_refl _)]
     simp only [Nat.sub_self, List.set_cons_zero]
     rw [← hp, byv_append, putN_lt h, bc_of (show m < 256 by omega)]
     rfl
 · have d1 : decide ((128 : Int) ≤ m) = true := by simp; omega
   simp -implicitDefEqProofs only [mkE, go_sem, d1, row1, byv_len, List.length_singleton, hle, tmod128, wrap8N (n := m % 128), add128, tdiv128, wrapUN (show m / 128 < 18446744073709551616 by omega)]
   rw [List.set_append_right _ _ (Nat.le_refl _)]
   simp only [Nat.sub_self, List.set_cons_zero]
   have hgo := hJ ⟨(m / 128, pre ++ [(m % 128 + 128).toUInt8]), by simp only; omega, by
    rw [← hp]; simp only [List.append_assoc, List.singleton_append]; rw [putN_ge h]⟩ (by simp only; omega)
   simp only [byv_append, List.length_append, List.length_singleton] at hgo
   rw [bc_of (show m % 128 + 128 < 256 by omega)]
   exact hgo
theorem dputtext_own (s : ByteArray) (hs : s.size ≤ 4294967280) : Ans Tryz.prog 76 [Sx s] σ (.osl σ.length (txtB s).length) (σ ++ [.row 1 (byv (txtB s))]) := by
 have h10 := putN_len10 (n := s.size) (by omega)
 have hsz := size_list s
 have hw := wrapUN (n := s.size) (by omega)
 have hle : (putN s.size).length + s.size ≤ 2 ^ 32 := by omega
 refine Ans.of_run' t76 (fun hbel _ => ?_)
 simp -implicitDefEqProofs only [c76, r76, go_sem, hw]
 refine CO.intro (dput_ans σ s.size (by omega)) ?_
 simp -implicitDefEqProofs only [go_sem, strA_byv, row1, byv_len, hsz, hle]
 simp -implicitDefEqProofs only [go_sem, g0, s0, byv_len, hsz, ← byv_append, List.length_append]
 refine Fini.ret3 (n := 0) rfl ?_ rfl
 show AV.osl σ.length ((putN s.size).length + s.size) = AV.osl σ.length (txtB s).length
 unfold txtB
 rw [List.length_append, hsz]
theorem dputtext_ans (s : ByteArray) (hs : s.size ≤ 4294967280) : Ans Tryz.prog 76 [Sx s] σ (.sl 1 (byv (txtB s))) σ :=
 (dputtext_own σ s hs).shut (by rw [byv_len]) (bel_byv _ _)
theorem dget_ans (b : Byt) (hb : b.length ≤ 100000) : Ans Tryz.prog 65 [.sl 1 (byv b)] σ (getV b) σ := by
 refine Ans.of_run t65 ?_
 simp -implicitDefEqProofs only [c65, r65, go_sem]
 refine Go.Ab.L.intro (α := { p : Nat × Nat // p.1 ≤ b.length ∧ ((p.1 ≤ 9 ∧ p.2 < 2 ^ (7 * p.1) ∧ getN 0 b = (getN p.1 (b.drop p.1)).map fun q => (p.2 + 2 ^ (7 * p.1) * q.1, q.2)) ∨ (p.1 = 10 ∧ getN 0 b = none)) }) (fun p => b.length - p.1.1)
  (fun p => mkE 51 [(0, .sl 1 (byv b)), (5, UN p.1.2), (6, I p.1.1)]) (fun _ => σ) ?_ ⟨(0, 0), Nat.zero_le _, .inl ⟨Nat.zero_le _, by simp, by cases h : getN 0 b <;> simp [h]⟩⟩ rfl rfl
 rintro ⟨⟨i, a⟩, hi, hinv⟩ J hJ
 simp only at hi hinv hJ
 rcases hinv with ⟨h9, ha, hg⟩ | ⟨h10, hg⟩
 · have h10 : decide ((i : Int) < 10) = true := by simp; omega
   by_cases hlt : i < b.length
   · have hx := byv_get b i hlt
     have hdr : b.drop i = b[i] :: b.drop (i + 1) := List.drop_eq_getElem_cons hlt
     rw [hdr] at hg
     have hcl := (b[i]).toNat_lt
     generalize hc : b[i] = c at hx hg hcl
     have hbeq9 : ((i : Int) == 9) = decide (i = 9) := by rw [Bool.eq_iff_iff]; simp; omega
     have hgt1 : decide ((1 : Int) < ((c.toNat % 128 : Nat) : Int)) = decide (1 < c.toNat % 128) := by rw [Bool.eq_iff_iff]; simp only [decide_eq_true_eq]; omega
     have hgt0 : decide ((0 : Int) < i) = decide (0 < i) := by rw [Bool.eq_iff_iff]; simp
     have hbeq0 : (((c.toNat % 128 : Nat) : Int) == 0) = decide (c.toNat % 128 = 0) := by rw [Bool.eq_iff_iff]; simp only [decide_eq_true_eq, beq_iff_eq]; omega
     have h128 : decide ((128 : Int) ≤ c.toNat) = decide (128 ≤ c.toNat) := by rw [Bool.eq_iff_iff]; simp only [decide_eq_true_eq]; omega
     have hwd := wrapUN (n := c.toNat % 128) (by omega)
     have hin := wrap_succ (i := i) (by omega)
     have h7 := wrap_mul7 (i := i) (by omega)
     have h7u := wrapUN (n := 7 * i) (by omega)
     simp only [getN] at hg
     by_cases hbad : i = 9 ∧ 1 < c.toNat % 128
     · rw [if_pos (.inl ⟨hbad.1, by omega⟩)] at hg
       rw [getV_none hg]
       simp -implicitDefEqProofs only [mkE, go_sem, byv_len, nat_lt hlt, dec_lt hlt, h10, hx, bc, tmod128, hwd, hbeq9, hgt1, decide_eq_true hbad.1, decide_eq_true hbad.2]
       exact Fini.ret rfl
     · have go : ∀ (P : Prop), (decide (i = 9) = true → decide (1 < c.toNat % 128) = false → P) → (decide (i = 9) = false → P) → P := fun P p q => by
        by_cases h3 : i = 9
        · exact p (decide_eq_true h3) (decide_eq_false (by omega))
        · exact q (decide_eq_false h3)
       have hor := orD_eq a (c.toNat % 128) (7 * i) ha (by omega) (shl_bound i c.toNat (by omega))
       by_cases hend : c.toNat < 128
       · have e128 : decide (128 ≤ c.toNat) = false := decide_eq_false (by omega)
         have hmod : c.toNat % 128 = c.toNat := Nat.mod_eq_of_lt hend
         by_cases hz : c.toNat % 128 = 0 ∧ 0 < i
         · rw [if_pos (.inr ⟨hz.2, by omega⟩)] at hg
           rw [getV_none hg]
           refine go _ (fun x1 x2 => ?_) fun x1 => ?_
           · simp -implicitDefEqProofs only [mkE, go_sem, byv_len, nat_lt hlt, dec_lt hlt, h10, hx, bc, tmod128, hwd, hbeq9, hgt1, hgt0, hbeq0, x1, x2, h7, h7u, h128, e128, decide_eq_true hz.1, decide_eq_true hz.2]
             exact Fini.ret rfl
           · simp -implicitDefEqProofs only [mkE, go_sem, byv_len, nat_lt hlt, dec_lt hlt, h10, hx, bc, tmod128, hwd, hbeq9, hgt1, hgt0, hbeq0, x1, h7, h7u, h128, e128, decide_eq_true hz.1, decide_eq_true hz.2]
             exact Fini.ret rfl
         · rw [if_neg (by omega), if_pos hend] at hg
           simp only [Option.map_some] at hg
           rw [getV_some hg]
           have hfin : ∀ v : Int, v = ((a + 2 ^ (7 * i) * (c.toNat % 128) : Nat) : Int) → (.tup [.pl (.int .u64 v), I ((i + 1 : Nat) : Int), Bo true] : AV) = .tup [UN (a + 2 ^ (7 * i) * c.toNat), I (b.length - (b.drop (i + 1)).length : Nat), Bo true] := by
            rintro _ rfl
            rw [hmod, List.length_drop, show b.length - (b.length - (i + 1)) = i + 1 by omega]
           have go2 : ∀ (P : Prop), (decide (c.toNat % 128 = 0) = true → decide (0 < i) = false → P) → (decide (c.toNat % 128 = 0) = false → P) → P := fun P p q => by
            by_cases h3 : c.toNat % 128 = 0
            · exact p (decide_eq_true h3) (decide_eq_false (by omega))
            · exact q (decide_eq_false h3)
           refine go _ (fun x1 x2 => go2 _ (fun y1 y2 => ?_) fun y1 => ?_) fun x1 => go2 _ (fun y1 y2 => ?_) fun y1 => ?_
           · simp -implicitDefEqProofs only [mkE, go_sem, byv_len, nat_lt hlt, dec_lt hlt, h10, hx, bc, tmod128, hwd, hbeq9, hgt1, hgt0, hbeq0, x1, x2, y1, y2, h7, h7u, h128, e128, hin]
             exact Fini.ret' rfl (hfin _ hor)
           · simp -implicitDefEqProofs only [mkE, go_sem, byv_len, nat_lt hlt, dec_lt hlt, h10, hx, bc, tmod128, hwd, hbeq9, hgt1, hgt0, hbeq0, x1, x2, y1, h7, h7u, h128, e128, hin]
             exact Fini.ret' rfl (hfin _ hor)
           · simp -implicitDefEqProofs only [mkE, go_sem, byv_len, nat_lt hlt, dec_lt hlt, h10, hx, bc, tmod128, hwd, hbeq9, hgt1, hgt0, hbeq0, x1, y1, y2, h7, h7u, h128, e128, hin]
             exact Fini.ret' rfl (hfin _ hor)
           · simp -implicitDefEqProofs only [mkE, go_sem, byv_len, nat_lt hlt, dec_lt hlt, h10, hx, bc, tmod128, hwd, hbeq9, hgt1, hgt0, hbeq0, x1, y1, h7, h7u, h128, e128, hin]
             exact Fini.ret' rfl (hfin _ hor)
       · have e128 : decide (128 ≤ c.toNat) = true := decide_eq_true (by omega)
         have hgo := hJ ⟨(i + 1, a + 2 ^ (7 * i) * (c.toNat % 128)), by simp only; omega, (by
          simp only
          rcases Nat.lt_or_eq_of_le h9 with hi9 | hi9
          · refine .inl ⟨by omega, ?_, ?_⟩
            · have e1 : 2 ^ (7 * (i + 1)) = 2 ^ (7 * i) * 128 := by rw [Nat.mul_add, Nat.pow_add]
              have : c.toNat % 128 < 128 := Nat.mod_lt _ (by decide)
              have : 2 ^ (7 * i) * (c.toNat % 128 + 1) ≤ 2 ^ (7 * i) * 128 := Nat.mul_le_mul_left _ this
              rw [Nat.mul_add, Nat.mul_one] at this
              omega
            · rw [if_neg (by omega), if_neg hend] at hg
              rw [hg]
              have hm : c.toNat % 128 = c.toNat - 128 := by omega
              cases getN (i + 1) (b.drop (i + 1)) with
              | none => rfl
              | some q =>
                simp only [Option.map_some, Option.some.injEq, Prod.mk.injEq, and_true]
                rw [hm, show 7 * (i + 1) = 7 * i + 7 by omega, Nat.pow_add, Nat.mul_add, Nat.add_assoc, ← Nat.mul_assoc]
          · refine .inr ⟨by omega, ?_⟩
            rw [if_pos (.inl ⟨hi9, by omega⟩)] at hg
            exact hg)⟩ (by simp only; omega)
         have key : ∀ v : Int, v = ((a + 2 ^ (7 * i) * (c.toNat % 128) : Nat) : Int) → J (mkE 51 [(0, .sl 1 (byv b)), (5, .pl (.int .u64 v)), (6, I ((i + 1 : Nat) : Int))]) σ := by
          rintro _ rfl
          exact hgo
         refine go _ (fun x1 x2 => ?_) fun x1 => ?_
         · simp -implicitDefEqProofs only [mkE, go_sem, byv_len, nat_lt hlt, dec_lt hlt, h10, hx, bc, tmod128, hwd, hbeq9, hgt1, x1, x2, h7, h7u, h128, e128, hin]
           exact key _ hor
         · simp -implicitDefEqProofs only [mkE, go_sem, byv_len, nat_lt hlt, dec_lt hlt, h10, hx, bc, tmod128, hwd, hbeq9, hgt1, x1, h7, h7u, h128, e128, hin]
           exact key _ hor
   · have hn : b.drop i = [] := List.drop_eq_nil_of_le (by omega)
     rw [hn] at hg
     simp only [getN, Option.map_none] at hg
     rw [getV_none hg]
     simp -implicitDefEqProofs only [mkE, go_sem, byv_len, nat_nlt hlt, dec_nlt hlt]
     exact Fini.ret rfl
 · subst h10
   have h10 : decide (((10 : Nat) : Int) < 10) = false := by simp
   rw [getV_none hg]
   by_cases hlt : 10 < b.length
   · simp -implicitDefEqProofs only [mkE, go_sem, byv_len, dec_lt hlt, h10]
     exact Fini.ret rfl
   · simp -implicitDefEqProofs only [mkE, go_sem, byv_len, dec_nlt hlt]
     exact Fini.ret rfl
theorem dgettext_ans (b : Byt) (most : Nat) (hb : b.length ≤ 100000) (hm : most < 9223372036854775808) : Ans Tryz.prog 66 [.sl 1 (byv b), I most] σ (textV most b) σ := by
 refine Ans.of_run t66 ?_
 simp -implicitDefEqProofs only [c66, r66, go_sem]
 refine CO.intro (dget_ans σ b hb) ?_
 have hneg : decide ((most : Int) < 0) = false := by simp
 have hwm := wrapUN (n := most) (by omega)
 cases hg : getN 0 b with
 | none =>
   rw [getV_none hg, textV_none (textR_none hg)]
   simp -implicitDefEqProofs only [go_sem]
   exact Fini.ret rfl
 | some p =>
   obtain ⟨n, t⟩ := p
   obtain ⟨hbt, hn, _⟩ := getN_inv b 0 n t (by omega) hg
   have hn : n < 18446744073709551616 := hn
   have hlen : b.length = (putN n).length + t.length := by rw [hbt, List.length_append]
   have hk : b.length - t.length = (putN n).length := by omega
   have hsub := subN (a := b.length) (b := (putN n).length) (by omega) hb
   have hsub2 : b.length - (putN n).length = t.length := by omega
   have hwt := wrapUN (n := t.length) (by omega)
   have e1 : decide ((most : Int) < n) = decide (most < n) := decNN most n
   have e2 : decide ((t.length : Int) < n) = decide (t.length < n) := decNN _ n
   rw [getV_some hg, hk]
   have hR := textR_of (most := most) hg
   by_cases h2 : n ≤ t.length
   · have x2 : decide (t.length < n) = false := decide_eq_false (by omega)
     by_cases h1 : n ≤ most
     · have x1 : decide (most < n) = false := decide_eq_false (by omega)
       rw [if_pos ⟨h1, h2⟩] at hR
       have hwn := wrapI (a := n) (by omega)
       have hadd := addN (a := (putN n).length) (b := n) (by omega)
       have hlo : ((putN n).length : Int) ≤ ((putN n).length + n : Nat) := by omega
       have hhi : (((putN n).length + n : Nat) : Int) ≤ (b.length : Nat) := by omega
       have hcut : (b.take ((putN n).length + n)).drop (putN n).length = t.take n := by
        rw [hbt, List.take_append, List.take_of_length_le (by omega), Nat.add_sub_cancel_left, List.drop_left]
       rw [textV_some hR]
       simp -implicitDefEqProofs only [go_sem, hneg, hwm, e1, x1, hsub, hsub2, hwt, e2, x2, hwn, hadd, byv_len, hlo, hhi, AV.isStr, byv_take, byv_drop, hcut, byv_all', bc, byteL_byv, textOf_byv]
       refine Fini.ret' rfl ?_
       rw [List.length_drop]
       have : b.length - (t.length - n) = (putN n).length + n := by omega
       rw [this]; rfl
     · have x1 : decide (most < n) = true := decide_eq_true (by omega)
       rw [if_neg (by omega)] at hR
       rw [textV_none hR]
       simp -implicitDefEqProofs only [go_sem, hneg, hwm, e1, x1, byv_len, hsub, hsub2, hwt, e2, x2]
       exact Fini.ret rfl
   · have x2 : decide (t.length < n) = true := decide_eq_true (by omega)
     rw [if_neg (by omega)] at hR
     rw [textV_none hR]
     simp -implicitDefEqProofs only [go_sem, hneg, hwm, byv_len, hsub, hsub2, hwt, e2, x2]
     exact Fini.ret rfl
end
end Go.Proofs.YtmkmhhjkdaklbaaGreat
