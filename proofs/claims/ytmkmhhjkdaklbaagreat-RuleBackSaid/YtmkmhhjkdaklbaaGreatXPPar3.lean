/- The functions and the externs that the evaluator may run. No condition. -/
import Derived.Test.YtmkmhhjkdaklbaaGreatXMCode1
import Derived.Test.YtmkmhhjkdaklbaaGreatProg
import Derived.Test.YtmkmhhjkdaklbaaGreatAbStep
import Derived.Test.YtmkmhhjkdaklbaaGreatAbFast
import Derived.Laws.Externs
import Derived.Test.YtmkmhhjkdaklbaaGreatAbArg
import Derived.Test.YtmkmhhjkdaklbaaGreatXMCod
set_option linter.unusedSimpArgs false
set_option linter.unusedVariables false
namespace Go.Proofs.YtmkmhhjkdaklbaaGreat
open Go Go.Ab
theorem ext1_ok (f : FuncId) (fn : Func) (hf : Tryz.prog.funcs[f]? = some fn) (hname : (fn.name == "runtime.NumGoroutine") = false) (hb : fn.body.isNone = true) (hn : Extern.findNext fn = none)
  (e : Array Value → Sem Value) (he : Extern.find fn = some e) (g : Value → Option Value) (hg : ∀ v r w, g v = some r → (e #[v]).run Tryz.prog w = .ok r w)
  (args : List AV) (σ : St) (r : AV) (σ' : St) (h : (match args with | [.pl v] => (g v).map fun r => (AV.pl r, σ) | _ => none) = some (r, σ')) : Ans Tryz.prog f args σ r σ' := by
 split at h
 · rename_i v
   obtain ⟨q, hq, h⟩ := opt_map_some h
   simp only [Prod.mk.injEq] at h
   obtain ⟨rfl, rfl⟩ := h
   intro M ν w vs gd hvs
   refine .inr ⟨q, w, ?_, M, ν, gd, .refl, .pl _⟩
   obtain ⟨hl, hr⟩ := hvs
   match vs, hl with
   | [a], _ =>
     have h0 := hr 0 (by simp) (by simp)
     simp only [List.getElem_cons_zero] at h0
     cases h0
     rw [run_callFunc_extern hf hname hb hn he]
     rw [show ([v].toArray) = #[v] from rfl, hg v q w hq]
     rfl
 · simp at h
def bitsG : Value → Option Value
 | .float .f64 b => some (.int .u64 b)
 | _ => none
theorem bitsG_ok (v r : Value) (w : World) (h : bitsG v = some r) : (Extern.MathFloatBits.float64bits #[v]).run Tryz.prog w = .ok r w := by
 unfold bitsG at h
 split at h <;> simp at h
 subst h; rfl
def ext_bits : Ext Tryz.prog := ⟨47, fun args σ => match args with | [.pl v] => (bitsG v).map fun r => (AV.pl r, σ) | _ => none,
 ext1_ok 47 Tryz.f47 (by kernel_rfl) (by kernel_rfl) (by kernel_rfl) (by kernel_rfl) Extern.MathFloatBits.float64bits (by kernel_rfl) bitsG bitsG_ok⟩
def frombitsG : Value → Option Value
 | .int .u64 n => some (.float .f64 n.toNat)
 | _ => none
theorem frombitsG_ok (v r : Value) (w : World) (h : frombitsG v = some r) : (Extern.MathFloatBits.float64frombits #[v]).run Tryz.prog w = .ok r w := by
 unfold frombitsG at h
 split at h <;> simp at h
 subst h; rfl
def ext_frombits : Ext Tryz.prog := ⟨151, fun args σ => match args with | [.pl v] => (frombitsG v).map fun r => (AV.pl r, σ) | _ => none,
 ext1_ok 151 Tryz.f151 (by kernel_rfl) (by kernel_rfl) (by kernel_rfl) (by kernel_rfl) Extern.MathFloatBits.float64frombits (by kernel_rfl) frombitsG frombitsG_ok⟩
theorem cmp_ok (args : List AV) (σ : St) (r : AV) (σ' : St) (h : (match args with
 | [.pl (.string a), .pl (.string b)] => some (AV.pl (.int .i64 (Extern.BytealgCompare.cmp a b)), σ)
 | _ => none) = some (r, σ')) : Ans Tryz.prog 183 args σ r σ' := by
 split at h
 · rename_i s c
   simp only [Option.some.injEq, Prod.mk.injEq] at h
   obtain ⟨rfl, rfl⟩ := h
   intro M ν w vs g hvs
   refine .inr ⟨_, w, ?_, M, ν, g, .refl, .pl _⟩
   obtain ⟨hl, hr⟩ := hvs
   match vs, hl with
   | [a, b], _ =>
     have h0 := hr 0 (by simp) (by simp)
     have h1 := hr 1 (by simp) (by simp)
     simp only [List.getElem_cons_zero, List.getElem_cons_succ] at h0 h1
     cases h0; cases h1
     rw [run_callFunc_extern (e := Extern.BytealgCompare.compare) (P := Tryz.prog) (f := 183) (fn := Tryz.f183) (by kernel_rfl) (by kernel_rfl) (by kernel_rfl) (by kernel_rfl) (by kernel_rfl)]
     rfl
 · simp at h
def ext_cmp : Ext Tryz.prog := ⟨183, fun args σ => match args with
 | [.pl (.string a), .pl (.string b)] => some (.pl (.int .i64 (Extern.BytealgCompare.cmp a b)), σ)
 | _ => none, cmp_ok⟩
theorem idx_ok (args : List AV) (σ : St) (r : AV) (σ' : St) (h : (match args with
 | [.pl (.string s), .pl (.int .u8 c)] => some (AV.pl (.int .i64 (firstIdx s c.toNat.toUInt8)), σ)
 | _ => none) = some (r, σ')) : Ans Tryz.prog 225 args σ r σ' := by
 split at h
 · rename_i s c
   simp only [Option.some.injEq, Prod.mk.injEq] at h
   obtain ⟨rfl, rfl⟩ := h
   intro M ν w vs g hvs
   refine .inr ⟨_, w, ?_, M, ν, g, .refl, .pl _⟩
   obtain ⟨hl, hr⟩ := hvs
   match vs, hl with
   | [a, b], _ =>
     have h0 := hr 0 (by simp) (by simp)
     have h1 := hr 1 (by simp) (by simp)
     simp only [List.getElem_cons_zero, List.getElem_cons_succ] at h0 h1
     cases h0; cases h1
     rw [run_callFunc_extern (e := Extern.BytealgIndexByte.indexByte) (P := Tryz.prog) (f := 225) (fn := Tryz.f225) (by kernel_rfl) (by kernel_rfl) (by kernel_rfl) (by kernel_rfl) (by kernel_rfl)]
     have := run_indexByte_string (P := Tryz.prog) s c w
     rw [this]
     rfl
 · simp at h
def ext_idx : Ext Tryz.prog := ⟨225, fun args σ => match args with
 | [.pl (.string s), .pl (.int .u8 c)] => some (.pl (.int .i64 (firstIdx s c.toNat.toUInt8)), σ)
 | _ => none, idx_ok⟩
def extF : List (Ext Tryz.prog) := [ext_bits, ext_frombits, ext_cmp, ext_idx]
def allF : List (Fun Tryz.prog) := [⟨16, o16, c16, r16, 32, t16⟩, ⟨50, o50, c50, r50, 8, t50⟩, ⟨53, o53, c53, r53, 11, t53⟩, ⟨106, o106, c106, r106, 33, t106⟩, ⟨108, o108, c108, r108, 41, t108⟩, ⟨132, o132, c132, r132, 6, t132⟩, ⟨142, o142, c142, r142, 32, t142⟩, ⟨143, o143, c143, r143, 22, t143⟩, ⟨144, o144, c144, r144, 21, t144⟩, ⟨146, o146, c146, r146, 9, t146⟩, ⟨148, o148, c148, r148, 23, t148⟩, ⟨159, o159, c159, r159, 11, t159⟩, ⟨160, o160, c160, r160, 29, t160⟩, ⟨161, o161, c161, r161, 18, t161⟩, ⟨162, o162, c162, r162, 8, t162⟩, ⟨163, o163, c163, r163, 20, t163⟩, ⟨165, o165, c165, r165, 9, t165⟩, ⟨166, o166, c166, r166, 8, t166⟩, ⟨167, o167, c167, r167, 44, t167⟩, ⟨168, o168, c168, r168, 16, t168⟩, ⟨171, o171, c171, r171, 26, t171⟩, ⟨172, o172, c172, r172, 8, t172⟩, ⟨173, o173, c173, r173, 6, t173⟩, ⟨174, o174, c174, r174, 5, t174⟩, ⟨175, o175, c175, r175, 19, t175⟩, ⟨176, o176, c176, r176, 18, t176⟩, ⟨177, o177, c177, r177, 44, t177⟩, ⟨178, o178, c178, r178, 19, t178⟩, ⟨179, o179, c179, r179, 8, t179⟩, ⟨181, o181, c181, r181, 33, t181⟩, ⟨182, o182, c182, r182, 16, t182⟩, ⟨184, o184, c184, r184, 20, t184⟩, ⟨185, o185, c185, r185, 18, t185⟩, ⟨186, o186, c186, r186, 30, t186⟩, ⟨187, o187, c187, r187, 6, t187⟩, ⟨188, o188, c188, r188, 48, t188⟩, ⟨191, o191, c191, r191, 19, t191⟩, ⟨192, o192, c192, r192, 21, t192⟩, ⟨193, o193, c193, r193, 28, t193⟩, ⟨194, o194, c194, r194, 9, t194⟩, ⟨195, o195, c195, r195, 99, t195⟩, ⟨196, o196, c196, r196, 9, t196⟩, ⟨197, o197, c197, r197, 9, t197⟩, ⟨198, o198, c198, r198, 70, t198⟩, ⟨199, o199, c199, r199, 50, t199⟩, ⟨201, o201, c201, r201, 78, t201⟩, ⟨202, o202, c202, r202, 35, t202⟩, ⟨203, o203, c203, r203, 41, t203⟩, ⟨204, o204, c204, r204, 69, t204⟩, ⟨205, o205, c205, r205, 19, t205⟩, ⟨206, o206, c206, r206, 11, t206⟩, ⟨208, o208, c208, r208, 25, t208⟩, ⟨209, o209, c209, r209, 68, t209⟩, ⟨210, o210, c210, r210, 15, t210⟩, ⟨211, o211, c211, r211, 16, t211⟩, ⟨212, o212, c212, r212, 19, t212⟩, ⟨213, o213, c213, r213, 8, t213⟩, ⟨214, o214, c214, r214, 9, t214⟩, ⟨215, o215, c215, r215, 6, t215⟩, ⟨221, o221, c221, r221, 23, t221⟩, ⟨222, o222, c222, r222, 8, t222⟩, ⟨223, o223, c223, r223, 19, t223⟩]
end Go.Proofs.YtmkmhhjkdaklbaaGreat
namespace Go.Proofs.YtmkmhhjkdaklbaaGreat
open Go Go.Ab
set_option maxRecDepth 100000
abbrev I (n : Int) : AV := .pl (.int .i64 n)
abbrev Bo (b : Bool) : AV := .pl (.bool b)
abbrev Sx (s : ByteArray) : AV := .pl (.string s)
theorem wrapN {n : Int} (h : -9223372036854775808 ≤ n) (h' : n < 9223372036854775808) : IntKind.i64.wrap n = n := by
 simp only [IntKind.wrap, IntKind.bits, IntKind.signed]; simp; omega
theorem bel_all {args : List AV} (h : belL 0 args = true) : ∀ a ∈ args, Bel 0 a := fun a ha => by
 obtain ⟨i, hi, rfl⟩ := List.getElem_of_mem ha
 exact Bel.of_mem (belL_ok 0 args h) i hi
theorem Fini.ret2 {n m : Nat} {rvs : List RV} {r r' : AV} {σ σ' : St} {env : Env} (h : resA env σ rvs = some r') (e : r' = r) (e' : σ = σ') : Fini m rvs r σ' .ret env σ := by
 subst e; subst e'; exact Fini.ret h
theorem Fini.trim2 {m : Nat} {rvs : List RV} {r : AV} {σ σ' ex : St} {env : Env} (h : resA env σ rvs = some r) (he : σ = σ' ++ ex) (hl : m ≤ σ'.length) (hb : Bel σ'.length r) (ho : ∀ o ∈ σ', BelO σ'.length o) : Fini m rvs r σ' .ret env σ := by
 subst he
 exact ⟨r, σ' ++ ex, h, rfl, rfl, .inr ⟨hl, by simp, hb, ho⟩⟩
def names : List ByteArray := [⟨#[115, 101, 118]⟩, ⟨#[106, 111, 98]⟩, ⟨#[104, 111, 115, 116]⟩, ⟨#[95, 120]⟩, ⟨#[90, 111, 110, 101, 57]⟩]
def values : List ByteArray := [⟨#[97]⟩, ⟨#[98]⟩, ⟨#[99, 114, 105, 116]⟩, ⟨#[119, 97, 114, 110]⟩, ⟨#[97, 98]⟩, ⟨#[0, 255]⟩, ⟨#[97, 98, 97, 98, 97, 98, 97, 98, 97, 98, 97, 98, 97, 98, 97, 98, 97, 98, 97, 98, 97, 98, 97, 98]⟩]
def pats : List ByteArray := [⟨#[97, 124, 98]⟩, ⟨#[]⟩, ⟨#[40, 99, 114, 105, 116, 124, 119, 97, 114, 110, 41]⟩, ⟨#[91, 97, 45, 99, 93, 43, 46, 42]⟩, ⟨#[46, 43]⟩, ⟨#[40, 97, 98, 41, 42]⟩, ⟨#[97, 63, 98, 63]⟩, ⟨#[91, 94, 97, 93, 42]⟩, ⟨#[97, 42, 97, 42, 97, 42, 97, 42, 97, 42, 97, 42, 97, 42, 97, 42, 97, 42, 97, 42, 97, 42, 97, 42, 97, 42, 97, 42]⟩]
def emodW (n lo hi : Int) : Int := lo + n % (hi - lo + 1)
def inD (n lo hi : Int) : Int := if lo ≤ n ∧ n ≤ hi then n else emodW n lo hi
theorem emodW_in (n lo hi : Int) (h : lo ≤ hi) : lo ≤ emodW n lo hi ∧ emodW n lo hi ≤ hi := by
 unfold emodW
 have h1 := Int.emod_nonneg n (show hi - lo + 1 ≠ 0 by omega)
 have h2 := Int.emod_lt_of_pos n (show 0 < hi - lo + 1 by omega)
 omega
theorem inD_in (n lo hi : Int) (h : lo ≤ hi) : lo ≤ inD n lo hi ∧ inD n lo hi ≤ hi := by
 unfold inD
 split
 · assumption
 · exact emodW_in n lo hi h
def nameOf (n : Int) : ByteArray := names.getD (inD n 0 4).toNat ⟨#[]⟩
def valueOf (n : Int) : ByteArray := values.getD (inD n 0 6).toNat ⟨#[]⟩
def patOf (n : Int) : ByteArray := pats.getD (inD n 0 8).toNat ⟨#[]⟩
theorem getD_mem {l : List ByteArray} {k : Nat} (h : k < l.length) (d : ByteArray) : l.getD k d ∈ l := by
 rw [List.getD_eq_getElem?_getD, List.getElem?_eq_getElem h]; exact List.getElem_mem h
theorem nameOf_mem (n : Int) : nameOf n ∈ names := by
 have h := inD_in n 0 4 (by omega)
 unfold nameOf
 have : (inD n 0 4).toNat < 5 := by omega
 exact getD_mem this _
theorem valueOf_mem (n : Int) : valueOf n ∈ values := by
 have h := inD_in n 0 6 (by omega)
 unfold valueOf
 have : (inD n 0 6).toNat < 7 := by omega
 exact getD_mem this _
theorem patOf_mem (n : Int) : patOf n ∈ pats := by
 have h := inD_in n 0 8 (by omega)
 unfold patOf
 have : (inD n 0 8).toNat < 9 := by omega
 exact getD_mem this _
section
variable (σ : St)
theorem within_ans (n lo hi : Int) (h0 : 0 ≤ lo) (h1 : lo ≤ hi) (h2 : hi ≤ 100) : Ans Tryz.prog 100 [I n, I lo, I hi] σ (I (emodW n lo hi)) σ := by
 have e1 : IntKind.i64.wrap (hi - lo) = hi - lo := wrapN (by omega) (by omega)
 have e2 : IntKind.i64.wrap (hi - lo + 1) = hi - lo + 1 := wrapN (by omega) (by omega)
 have e3 : ((hi - lo + 1) = 0) = False := by simp; omega
 have h3 := Int.emod_nonneg n (show hi - lo + 1 ≠ 0 by omega)
 have h4 := Int.emod_lt_of_pos n (show 0 < hi - lo + 1 by omega)
 have h5 := Int.tmod_eq_emod (a := n) (b := hi - lo + 1)
 unfold emodW
 generalize hm : n % (hi - lo + 1) = m at h3 h4 h5
 have h6 : n.tmod (hi - lo + 1) = m ∨ n.tmod (hi - lo + 1) = m - (hi - lo + 1) := by
  rw [h5]
  split
  · left; omega
  · right; omega
 refine Ans.of_run t100 ?_
 simp -implicitDefEqProofs only [c100, r100, go_sem, e1, e2, e3]
 generalize n.tmod (hi - lo + 1) = r at h6
 rcases h6 with rfl | rfl
 · have d1 : decide (r < 0) = false := by simp; omega
   have e4 : IntKind.i64.wrap (lo + r) = lo + r := wrapN (by omega) (by omega)
   simp -implicitDefEqProofs only [go_sem, d1, e4]
   exact Fini.ret rfl
 · have d1 : decide (m - (hi - lo + 1) < 0) = true := by simp; omega
   have e4 : IntKind.i64.wrap (m - (hi - lo + 1) + hi) = m - (hi - lo + 1) + hi := wrapN (by omega) (by omega)
   have e5 : IntKind.i64.wrap (m - (hi - lo + 1) + hi - lo) = m - (hi - lo + 1) + hi - lo := wrapN (by omega) (by omega)
   have e6 : IntKind.i64.wrap (m - (hi - lo + 1) + hi - lo + 1) = m := by rw [wrapN (by omega) (by omega)]; omega
   have e7 : IntKind.i64.wrap (lo + m) = lo + m := wrapN (by omega) (by omega)
   simp -implicitDefEqProofs only [go_sem, d1, e4, e5, e6, e7]
   exact Fini.ret rfl
theorem in_ans' (n lo hi : Int) (h0 : 0 ≤ lo) (h1 : lo ≤ hi) (h2 : hi ≤ 100) : Ans Tryz.prog 99 [I n, I lo, I hi] σ (I (inD n lo hi)) σ := by
 have hw := within_ans σ n lo hi h0 h1 h2
 unfold inD
 refine Ans.of_run t99 ?_
 simp -implicitDefEqProofs only [c99, r99, go_sem]
 by_cases d1 : lo ≤ n
 · by_cases d2 : n ≤ hi
   · have d1' : decide (lo ≤ n) = true := by simpa using d1
     have d2' : decide (n ≤ hi) = true := by simpa using d2
     simp -implicitDefEqProofs only [go_sem, d1', d2']
     rw [if_pos ⟨d1, d2⟩]
     exact Fini.ret rfl
   · have d1' : decide (lo ≤ n) = true := by simpa using d1
     have d2' : decide (n ≤ hi) = false := by simpa using d2
     simp -implicitDefEqProofs only [go_sem, d1', d2']
     refine CO.intro hw ?_
     simp -implicitDefEqProofs only [go_sem]
     rw [if_neg (fun h => d2 h.2)]
     exact Fini.ret rfl
 · have d1' : decide (lo ≤ n) = false := by simpa using d1
   simp -implicitDefEqProofs only [go_sem, d1']
   refine CO.intro hw ?_
   simp -implicitDefEqProofs only [go_sem]
   rw [if_neg (fun h => d1 h.1)]
   exact Fini.ret rfl
theorem name_ans (n : Int) : Ans Tryz.prog 81 [I n] σ (Sx (nameOf n)) σ := by
 have h := inD_in n 0 4 (by omega)
 have hi := in_ans' σ n 0 4 (by omega) (by omega) (by omega)
 unfold nameOf
 generalize inD n 0 4 = r at h hi ⊢
 refine Ans.of_run t81 ?_
 simp -implicitDefEqProofs only [c81, r81, go_sem]
 refine CO.intro hi ?_
 have h5 : r = 0 ∨ r = 1 ∨ r = 2 ∨ r = 3 ∨ r = 4 := by omega
 rcases h5 with rfl | rfl | rfl | rfl | rfl
 all_goals (
  simp -implicitDefEqProofs only [go_sem]
  exact Fini.ret rfl)
theorem value_ans (n : Int) : Ans Tryz.prog 133 [I n] σ (Sx (valueOf n)) σ := by
 have h := inD_in n 0 6 (by omega)
 have hi := in_ans' σ n 0 6 (by omega) (by omega) (by omega)
 unfold valueOf
 generalize inD n 0 6 = r at h hi ⊢
 refine Ans.of_run t133 ?_
 simp -implicitDefEqProofs only [c133, r133, go_sem]
 refine CO.intro hi ?_
 have h5 : r = 0 ∨ r = 1 ∨ r = 2 ∨ r = 3 ∨ r = 4 ∨ r = 5 ∨ r = 6 := by omega
 rcases h5 with rfl | rfl | rfl | rfl | rfl | rfl | rfl
 all_goals (
  simp -implicitDefEqProofs only [go_sem]
  exact Fini.ret rfl)
theorem pattern_ans (n : Int) : Ans Tryz.prog 152 [I n] σ (Sx (patOf n)) σ := by
 have h := inD_in n 0 8 (by omega)
 have hi := in_ans' σ n 0 8 (by omega) (by omega) (by omega)
 unfold patOf
 generalize inD n 0 8 = r at h hi ⊢
 refine Ans.of_run t152 ?_
 simp -implicitDefEqProofs only [c152, r152, go_sem]
 refine CO.intro hi ?_
 have h5 : r = 0 ∨ r = 1 ∨ r = 2 ∨ r = 3 ∨ r = 4 ∨ r = 5 ∨ r = 6 ∨ r = 7 ∨ r = 8 := by omega
 rcases h5 with rfl | rfl | rfl | rfl | rfl | rfl | rfl | rfl | rfl
 all_goals (
  simp -implicitDefEqProofs only [go_sem]
  exact Fini.ret rfl)
abbrev mat (k : Int) (n v : ByteArray) : AV := .agg [I k, Sx n, Sx v]
def matVal (k v : Int) : ByteArray := if inD k 1 4 < 3 then (if v < 0 then ⟨#[]⟩ else valueOf v) else patOf v
theorem bel_mat (m : Nat) (k : Int) (n v : ByteArray) : Bel m (mat k n v) := by
 refine .agg _ fun i hi => ?_
 have : ∀ y ∈ [I k, Sx n, Sx v], Bel m y := by
  intro y hy
  simp only [List.mem_cons, List.not_mem_nil, or_false] at hy
  rcases hy with rfl | rfl | rfl <;> exact .pl _
 exact this _ (List.getElem_mem hi)
theorem matcher_ans (k n v : Int) : Ans Tryz.prog 123 [.agg [I k, I n, I v]] σ (mat (inD k 1 4) (nameOf n) (matVal k v)) σ := by
 have k0 : ∀ (x y : Ob), (σ ++ [x, y])[σ.length]? = some x := fun x y => by rw [List.getElem?_append_right (by simp)]; simp
 have k0' : ∀ (x : Ob), (σ ++ [x])[σ.length]? = some x := fun x => by rw [List.getElem?_append_right (by simp)]; simp
 have k1 : ∀ (x y : Ob), (σ ++ [x, y])[σ.length + 1]? = some y := fun x y => by rw [List.getElem?_append_right (by simp)]; simp
 have s0 : ∀ (x y z : Ob), (σ ++ [x, y]).set σ.length z = σ ++ [z, y] := fun x y z => by rw [List.set_append_right _ _ (by simp)]; simp
 have s1 : ∀ (x y z : Ob), (σ ++ [x, y]).set (σ.length + 1) z = σ ++ [x, z] := fun x y z => by rw [List.set_append_right _ _ (by simp)]; simp
 have hb := bel_mat σ.length (inD k 1 4) (nameOf n) (matVal k v)
 refine Ans.of_run' t123 (fun hbel _ => ?_)
 simp -implicitDefEqProofs only [c123, r123, go_sem, D_callS, List.append_assoc, List.length_append]
 refine CS.intro (fun s => in_ans' s k 1 4 (by omega) (by omega) (by omega)) ?_
 simp -implicitDefEqProofs only [go_sem, D_callS, List.append_assoc, List.length_append]
 refine CS.intro (fun s => name_ans s n) ?_
 simp -implicitDefEqProofs only [go_sem, D_callS, List.append_assoc, List.length_append]
 refine CS.intro (fun s => pattern_ans s v) ?_
 simp -implicitDefEqProofs only [go_sem, D_callS, List.append_assoc, List.length_append, k0, k1, s0, s1]
 unfold matVal at hb ⊢
 by_cases h3 : inD k 1 4 < 3
 · have h3' : decide (inD k 1 4 < 3) = true := by simpa using h3
   rw [if_pos h3] at hb ⊢
   simp -implicitDefEqProofs only [go_sem, h3']
   refine CO.intro (value_ans _ v) ?_
   by_cases h0 : v < 0
   · have h0' : decide (v < 0) = true := by simpa using h0
     rw [if_pos h0] at hb ⊢
     simp -implicitDefEqProofs only [go_sem, h0', k0, k1, s0, s1]
     exact Fini.trim2 (σ' := σ) (ex := [_, _]) (by simp -implicitDefEqProofs only [go_sem, resA, allSome, rvA, oneOf, k0]) rfl (Nat.le_refl _) hb hbel
   · have h0' : decide (v < 0) = false := by simpa using h0
     rw [if_neg h0] at hb ⊢
     simp -implicitDefEqProofs only [go_sem, h0', k0, k1, s0, s1]
     exact Fini.trim2 (σ' := σ) (ex := [_, _]) (by simp -implicitDefEqProofs only [go_sem, resA, allSome, rvA, oneOf, k0]) rfl (Nat.le_refl _) hb hbel
 · have h3' : decide (inD k 1 4 < 3) = false := by simpa using h3
   rw [if_neg h3] at hb ⊢
   simp -implicitDefEqProofs only [go_sem, h3', k0, k1, s0, s1]
   exact Fini.trim2 (σ' := σ) (ex := [_, _]) (by simp -implicitDefEqProofs only [go_sem, resA, allSome, rvA, oneOf, k0]) rfl (Nat.le_refl _) hb hbel
end
end Go.Proofs.YtmkmhhjkdaklbaaGreat
namespace Go.Proofs.YtmkmhhjkdaklbaaGreat
open Go Go.Ab
set_option maxRecDepth 100000
abbrev Lab := ByteArray × ByteArray
section
variable (σ : St)
theorem nat_lt {i n : Nat} (h : i < n) : ((i : Int) < (n : Nat)) = True := by simp; omega
theorem nat_nlt {i n : Nat} (h : ¬ i < n) : ((i : Int) < (n : Nat)) = False := by simp; omega
theorem dec_lt {i n : Nat} (h : i < n) : decide ((i : Int) < (n : Nat)) = true := by simp; omega
theorem dec_nlt {i n : Nat} (h : ¬ i < n) : decide ((i : Int) < (n : Nat)) = false := by simp; omega
theorem wrap_succ {i : Nat} (h : i ≤ 100000) : IntKind.i64.wrap ((i : Int) + 1) = ((i + 1 : Nat) : Int) := by rw [wrapN (by omega) (by omega)]; rfl
def leS (a b : ByteArray) : Bool := Op.bytesLess a.toList b.toList || a.toList == b.toList
end
end Go.Proofs.YtmkmhhjkdaklbaaGreat
namespace Go.Proofs.YtmkmhhjkdaklbaaGreat
open Go Go.Ab
set_option maxRecDepth 100000
abbrev noL : Lab := (⟨#[]⟩, ⟨#[]⟩)
def pos (out : List Lab) (x : Lab) : Nat → Nat
 | 0 => 0
 | n + 1 => if Op.bytesLess x.1.toList (out.getD n noL).1.toList then pos out x n else n + 1
theorem B_pl (n : Nat) (v : Value) : Bel n (.pl v) = True := eq_true (.pl v)
theorem B_any (n : Nat) : Bel n .any = True := eq_true .any
theorem B_nils (n : Nat) : Bel n .nils = True := eq_true .nils
theorem B_tup (n : Nat) : Bel n (.tup []) = True := eq_true (.tup _ fun i hi => absurd hi (Nat.not_lt_zero _))
theorem B_sl0 (n k : Nat) : Bel n (.sl k []) = True := eq_true (.sl k [] fun i hi => absurd hi (Nat.not_lt_zero _))
theorem B_osl (n l k : Nat) : Bel n (.osl l k) = (l < n) := by
 apply propext
 constructor
 · intro h; cases h; assumption
 · intro h; exact .osl l k h
theorem B_ptr (n l k : Nat) : Bel n (.ptr l k) = (l < n) := by
 apply propext
 constructor
 · intro h; cases h; assumption
 · intro h; exact .ptr l k h
section
variable (σ : St)
theorem g0 (x : Ob) (ex : St) : (σ ++ x :: ex)[σ.length]? = some x := by rw [List.getElem?_append_right (by simp)]; simp
theorem s0 (x y : Ob) (ex : St) : (σ ++ x :: ex).set σ.length y = σ ++ y :: ex := by rw [List.set_append_right _ _ (by simp)]; simp
end
end Go.Proofs.YtmkmhhjkdaklbaaGreat
namespace Go.Proofs.YtmkmhhjkdaklbaaGreat
open Go Go.Ab
set_option maxRecDepth 100000
section
variable (σ : St)
theorem g1 (x y : Ob) (ex : St) : (σ ++ x :: y :: ex)[σ.length + 1]? = some y := by rw [List.getElem?_append_right (by simp)]; simp
theorem s1 (x y z : Ob) (ex : St) : (σ ++ x :: y :: ex).set (σ.length + 1) z = σ ++ x :: z :: ex := by rw [List.set_append_right _ _ (by simp)]; simp
end
end Go.Proofs.YtmkmhhjkdaklbaaGreat
namespace Go.Proofs.YtmkmhhjkdaklbaaGreat
open Go Go.Ab Go.Cod
set_option maxRecDepth 100000
abbrev UN (n : Nat) : AV := .pl (.int .u64 n)
def bc (c : UInt8) : AV := .pl (.int .u8 c.toNat)
def byv (b : Byt) : List AV := b.map bc
theorem byv_len (b : Byt) : (byv b).length = b.length := List.length_map ..
theorem byv_nil : byv [] = [] := rfl
theorem byv_cons (c : UInt8) (b : Byt) : byv (c :: b) = bc c :: byv b := rfl
theorem byv_append (a b : Byt) : byv (a ++ b) = byv a ++ byv b := List.map_append ..
theorem byv_take (b : Byt) (k : Nat) : (byv b).take k = byv (b.take k) := by simp [byv]
theorem byv_drop (b : Byt) (k : Nat) : (byv b).drop k = byv (b.drop k) := by simp [byv]
theorem byv_empty (b : Byt) : (byv b).isEmpty = b.isEmpty := by simp [byv]
theorem byv_all' (b : Byt) (f : AV → Bool) (h : ∀ c : UInt8, f (bc c) = true) : (byv b).all f = true := by
 simp only [byv, List.all_map, List.all_eq_true]
 intro c _
 exact h c
theorem byv_get (b : Byt) (i : Nat) (h : i < b.length) : (byv b)[i]? = some (bc b[i]) := by simp [byv, h]
theorem bel_bc (n : Nat) (c : UInt8) : Bel n (bc c) := .pl _
theorem bel_byv (n : Nat) (b : Byt) : Bel n (.sl 1 (byv b)) := .sl 1 _ fun i hi => by
 have : (byv b)[i] = bc (b[i]'(by rw [← byv_len]; exact hi)) := by simp [byv]
 rw [this]; exact bel_bc n _
theorem strA_byv (s : ByteArray) : (s.data.toList.map fun b => (AV.pl (.int .u8 b.toNat))) = byv s.data.toList := rfl
theorem byteL_byv : ∀ b : Byt, byteL (byv b) = some (b.map fun c => (c.toNat : Int))
 | [] => rfl
 | c :: b => by simp only [byv_cons, bc, byteL, byteL_byv b, Option.map_some, List.map_cons]
theorem textOf_byv (b : Byt) : textOf (b.map fun c => (c.toNat : Int)) = ⟨b.toArray⟩ := by
 unfold textOf
 congr 2
 rw [List.map_map]
 conv => rhs; rw [← List.map_id b]
 apply List.map_congr_left
 intro c _
 simp
theorem wrapUN {n : Nat} (h : n < 18446744073709551616) : IntKind.u64.wrap (n : Int) = (n : Int) := by
 simp only [IntKind.wrap, IntKind.bits, IntKind.signed]; simp; omega
theorem wrap8N {n : Nat} : IntKind.u8.wrap (n : Int) = ((n % 256 : Nat) : Int) := by
 simp only [IntKind.wrap, IntKind.bits, IntKind.signed]; simp
theorem or128 : ∀ m : Fin 256, IntKind.u8.wrap ((BitVec.ofInt 8 (m.val : Int) ||| BitVec.ofInt 8 128).toNat : Int) = ((m.val % 128 + 128 : Nat) : Int) := by decide +kernel
theorem bc_of {n : Nat} (h : n < 256) : AV.pl (.int .u8 n) = bc n.toUInt8 := by
 rw [bc, toNat_toUInt8 h]
theorem row1 (σ : St) (x : Ob) : (σ ++ [x])[σ.length]? = some x := by simp
theorem shr7 (n : Nat) : ((n : Int).fdiv (2 ^ min (7 : Int).toNat 64)) = ((n / 128 : Nat) : Int) := by
 have : (min (7 : Int).toNat 64) = 7 := rfl
 rw [this]
 rw [Int.fdiv_eq_ediv_of_nonneg _ (by decide)]
 rfl
theorem putN_len : ∀ (k n : Nat), n < 128 ^ (k + 1) → (putN n).length ≤ k + 1
 | 0, n, h => by rw [putN_lt (by simpa using h)]; simp
 | k + 1, n, h => by
   by_cases h1 : n < 128
   · rw [putN_lt h1]; simp
   · rw [putN_ge h1, List.length_cons]
     have := putN_len k (n / 128) (Nat.div_lt_of_lt_mul (by rw [Nat.pow_succ, Nat.mul_comm] at h; exact h))
     omega
theorem putN_len10 {n : Nat} (h : n < 18446744073709551616) : (putN n).length ≤ 10 := putN_len 9 n (Nat.lt_of_lt_of_le h (by decide))
theorem u8_or' (n : Nat) : IntKind.u8.wrap ((BitVec.ofInt 8 (((n % 256 : Nat) : Int)) ||| BitVec.ofInt 8 128).toNat : Int) = ((n % 128 + 128 : Nat) : Int) := by
 have := or128 ⟨n % 256, Nat.mod_lt _ (by decide)⟩
 simp only [show (n % 256) % 128 = n % 128 by omega] at this
 exact this
theorem u8_or (n : Nat) : IntKind.u8.wrap ((BitVec.ofInt IntKind.u8.bits (((n % 256 : Nat) : Int)) ||| BitVec.ofInt IntKind.u8.bits 128).toNat : Int) = ((n % 128 + 128 : Nat) : Int) := u8_or' n
theorem intle (a b : Nat) : decide ((a : Int) ≤ (b : Int)) = decide (a ≤ b) := by rw [Bool.eq_iff_iff]; simp
theorem Fini.ret3 {n m : Nat} {rvs : List RV} {r r' : AV} {σ σ' : St} {env : Env} (h : resA env σ rvs = some r') (e : r' = r) (e' : σ = σ') : Fini m rvs r σ' .ret env σ := by
 subst e; subst e'; exact Fini.ret h
section
variable (σ : St)
theorem put_ans (n : Nat) (hn : n < 18446744073709551616) : Ans Tryz.prog 71 [UN n] σ (.osl σ.length (putN n).length) (σ ++ [.row 1 (byv (putN n))]) := by
 have h10 := putN_len10 hn
 refine Ans.of_run t71 ?_
 simp -implicitDefEqProofs only [c71, r71, go_sem]
 refine Go.Ab.L.intro (α := { p : Nat × Byt // p.1 < 18446744073709551616 ∧ p.2 ++ putN p.1 = putN n }) (fun p => p.1.1) (fun p => mkE 19 [(0, UN p.1.1), (3, .osl σ.length p.1.2.length)]) (fun p => σ ++ [.row 1 (byv p.1.2)]) ?_ ⟨(n, []), hn, rfl⟩ rfl rfl
 rintro ⟨⟨m, pre⟩, hm, hp⟩ J hJ
 have hl : pre.length + (putN m).length ≤ 10 := by rw [← List.length_append, hp]; exact h10
 have hx : ∀ c : Int, (byv pre ++ [AV.pl (.int .u8 c)]).length = pre.length + 1 := fun c => by simp [byv_len]
 have d0 := intle 128 m
 simp only [Int.cast_ofNat_Int] at d0
 have hw := wrapUN hm
 have hle : pre.length + 1 ≤ 2 ^ 32 := by omega
 by_cases h : m < 128
 · have d1 : decide ((128 : Int) ≤ m) = false := by simp; omega
   have d2 : IntKind.u8.wrap (m : Int) = m := by rw [wrap8N]; congr 1; omega
   simp -implicitDefEqProofs only [mkE, go_sem, d1, row1, byv_len, List.length_singleton, hle, d2]
   refine Fini.ret3 (n := 0) rfl ?_ ?_
   · show AV.osl σ.length (pre.length + 1) = AV.osl σ.length (putN n).length
     rw [← hp, putN_lt h]; simp
   · rw [List.set_append_right _ _ (Nat.le_refl _)]
     simp only [Nat.sub_self, List.set_cons_zero]
     rw [← hp, byv_append, putN_lt h, bc_of (show m < 256 by omega)]
     rfl
 · have d1 : decide ((128 : Int) ≤ m) = true := by simp; omega
   simp -implicitDefEqProofs only [mkE, go_sem, d1, row1, byv_len, List.length_singleton, hle, wrap8N (n := m), u8_or, u8_or', shr7, wrapUN (show m / 128 < 18446744073709551616 by omega)]
   rw [List.set_append_right _ _ (Nat.le_refl _)]
   simp only [Nat.sub_self, List.set_cons_zero]
   have hgo := hJ ⟨(m / 128, pre ++ [(m % 128 + 128).toUInt8]), by simp only; omega, by
    rw [← hp]; simp only [List.append_assoc, List.singleton_append]; rw [putN_ge h]⟩ (by simp only; omega)
   simp only [byv_append, List.length_append, List.length_singleton] at hgo
   have key : ∀ v : Int, v = ((m % 128 + 128 : Nat) : Int) → J (mkE 19 [(0, UN (m / 128)), (3, .osl σ.length (pre.length + 1))]) (σ ++ [Ob.row 1 (byv pre ++ [AV.pl (.int .u8 v)])]) := by
    rintro _ rfl
    rw [bc_of (show m % 128 + 128 < 256 by omega)]
    exact hgo
   exact key _ (u8_or' m)
theorem puttext_own (s : ByteArray) (hs : s.size ≤ 4294967280) : Ans Tryz.prog 72 [Sx s] σ (.osl σ.length (txtB s).length) (σ ++ [.row 1 (byv (txtB s))]) := by
 have h10 := putN_len10 (n := s.size) (by omega)
 have hsz := size_list s
 have hw := wrapUN (n := s.size) (by omega)
 have hle : (putN s.size).length + s.size ≤ 2 ^ 32 := by omega
 refine Ans.of_run' t72 (fun hbel _ => ?_)
 simp -implicitDefEqProofs only [c72, r72, go_sem, hw]
 refine CO.intro (put_ans σ s.size (by omega)) ?_
 simp -implicitDefEqProofs only [go_sem, strA_byv, row1, byv_len, hsz, hle]
 simp -implicitDefEqProofs only [go_sem, g0, s0, byv_len, hsz, ← byv_append, List.length_append]
 refine Fini.ret3 (n := 0) rfl ?_ rfl
 show AV.osl σ.length ((putN s.size).length + s.size) = AV.osl σ.length (txtB s).length
 unfold txtB
 rw [List.length_append, hsz]
theorem puttext_ans (s : ByteArray) (hs : s.size ≤ 4294967280) : Ans Tryz.prog 72 [Sx s] σ (.sl 1 (byv (txtB s))) σ :=
 (puttext_own σ s hs).shut (by rw [byv_len]) (bel_byv _ _)
end
end Go.Proofs.YtmkmhhjkdaklbaaGreat
namespace Go.Proofs.YtmkmhhjkdaklbaaGreat
open Go Go.Ab Go.Cod
set_option maxRecDepth 100000
def getV (b : Byt) : AV := match getN 0 b with
 | some p => .tup [UN p.1, I (b.length - p.2.length : Nat), Bo true]
 | none => .tup [UN 0, I 0, Bo false]
theorem getV_none {b : Byt} (h : getN 0 b = none) : getV b = .tup [UN 0, I 0, Bo false] := by unfold getV; rw [h]
theorem getV_some {b : Byt} {n : Nat} {t : Byt} (h : getN 0 b = some (n, t)) : getV b = .tup [UN n, I (b.length - t.length : Nat), Bo true] := by unfold getV; rw [h]
theorem u8_127 : ∀ m : Fin 256, IntKind.u8.wrap ((BitVec.ofInt 8 (m.val : Int) &&& BitVec.ofInt 8 127).toNat : Int) = ((m.val % 128 : Nat) : Int) := by decide +kernel
theorem u8_and (c : UInt8) : IntKind.u8.wrap ((BitVec.ofInt IntKind.u8.bits (c.toNat : Int) &&& BitVec.ofInt IntKind.u8.bits 127).toNat : Int) = ((c.toNat % 128 : Nat) : Int) := u8_127 ⟨c.toNat, c.toNat_lt⟩
theorem or_shl (a d s : Nat) (ha : a < 2 ^ s) (hs : s < 64) (hd : d * 2 ^ s < 18446744073709551616) :
  IntKind.u64.wrap ((BitVec.ofInt IntKind.u64.bits (a : Int) ||| BitVec.ofInt IntKind.u64.bits (IntKind.u64.wrap ((d : Int) * 2 ^ min (((s : Nat) : Int).toNat) IntKind.u64.bits))).toNat : Int) = ((a + 2 ^ s * d : Nat) : Int) := by
 have hm : min (((s : Nat) : Int).toNat) IntKind.u64.bits = s := by
  show min s 64 = s; omega
 have ha2 : a < 18446744073709551616 := Nat.lt_of_lt_of_le ha (by
  calc 2 ^ s ≤ 2 ^ 63 := Nat.pow_le_pow_right (by decide) (by omega)
   _ ≤ 18446744073709551616 := by decide)
 rw [hm]
 have e1 : ((d : Int) * 2 ^ s) = ((d * 2 ^ s : Nat) : Int) := by push_cast; rfl
 rw [e1, wrapUN hd]
 have e2 : (BitVec.ofInt IntKind.u64.bits (a : Int) ||| BitVec.ofInt IntKind.u64.bits ((d * 2 ^ s : Nat) : Int)).toNat = a + 2 ^ s * d := by
  rw [BitVec.toNat_or]
  have f : ∀ n : Nat, n < 18446744073709551616 → (BitVec.ofInt IntKind.u64.bits (n : Int)).toNat = n := fun n hn => by
   rw [BitVec.ofInt_natCast, BitVec.toNat_ofNat]
   exact Nat.mod_eq_of_lt hn
  rw [f a ha2, f _ hd, ← Nat.shiftLeft_eq, Nat.or_comm, ← Nat.shiftLeft_add_eq_or_of_lt ha, Nat.shiftLeft_eq, Nat.mul_comm, Nat.add_comm]
 rw [e2]
 have hlt : a + 2 ^ s * d < 18446744073709551616 := by
  by_cases h0 : d = 0
  · subst h0; simpa using ha2
  · have h64 : (18446744073709551616 : Nat) = 2 ^ s * 2 ^ (64 - s) := by rw [← Nat.pow_add, show s + (64 - s) = 64 by omega]
    have hd2 : d < 2 ^ (64 - s) := by
     rw [h64, Nat.mul_comm] at hd
     exact Nat.lt_of_mul_lt_mul_left hd
    have : 2 ^ s * (d + 1) ≤ 2 ^ s * 2 ^ (64 - s) := Nat.mul_le_mul_left _ hd2
    rw [Nat.mul_add, Nat.mul_one] at this
    omega
 exact wrapUN hlt
def orT (a : Nat) (c : UInt8) (s : Nat) : Int := IntKind.u64.wrap ((BitVec.ofInt 64 (a : Int) ||| BitVec.ofInt 64 (IntKind.u64.wrap (IntKind.u64.wrap (IntKind.u8.wrap ((BitVec.ofInt 8 (c.toNat : Int) &&& BitVec.ofInt 8 127).toNat : Int)) * 2 ^ min s 64))).toNat : Int)
theorem orT_eq (a : Nat) (c : UInt8) (s : Nat) (ha : a < 2 ^ s) (hs : s < 64) (hd : c.toNat % 128 * 2 ^ s < 18446744073709551616) : orT a c s = ((a + 2 ^ s * (c.toNat % 128) : Nat) : Int) := by
 have h1 := or_shl a (c.toNat % 128) s ha hs hd
 have h2 : IntKind.u64.wrap (IntKind.u8.wrap ((BitVec.ofInt 8 (c.toNat : Int) &&& BitVec.ofInt 8 127).toNat : Int)) = ((c.toNat % 128 : Nat) : Int) := by
  have : IntKind.u8.wrap ((BitVec.ofInt 8 (c.toNat : Int) &&& BitVec.ofInt 8 127).toNat : Int) = ((c.toNat % 128 : Nat) : Int) := u8_and c
  rw [this]; exact wrapUN (by omega)
 unfold orT
 rw [h2]
 exact h1
theorem wrap_mul7 {i : Nat} (h : i ≤ 100) : IntKind.i64.wrap (7 * (i : Int)) = ((7 * i : Nat) : Int) := by rw [wrapN (by omega) (by omega)]; push_cast; rfl
section
variable (σ : St)
theorem get_ans' (b : Byt) (hb : b.length ≤ 100000) : Ans Tryz.prog 115 [.sl 1 (byv b)] σ (getV b) σ := by
 refine Ans.of_run t115 ?_
 simp -implicitDefEqProofs only [c115, r115, go_sem, byv_len]
 refine Go.Ab.L.intro (α := { p : Nat × Nat // p.1 ≤ b.length ∧ p.1 ≤ 9 ∧ p.2 < 2 ^ (7 * p.1) ∧ getN 0 b = (getN p.1 (b.drop p.1)).map fun q => (p.2 + 2 ^ (7 * p.1) * q.1, q.2) }) (fun p => b.length - p.1.1)
  (fun p => mkE 43 [(5, UN p.1.2), (8, .sl 1 (byv b)), (9, I b.length), (10, I p.1.1)]) (fun _ => σ) ?_ ⟨(0, 0), Nat.zero_le _, Nat.zero_le _, by simp, by cases h : getN 0 b <;> simp [h]⟩ rfl rfl
 rintro ⟨⟨i, a⟩, hi, h9, ha, hg⟩ J hJ
 simp only at hi h9 ha hg hJ
 by_cases hlt : i < b.length
 · have hx := byv_get b i hlt
   have hdr : b.drop i = b[i] :: b.drop (i + 1) := List.drop_eq_getElem_cons hlt
   rw [hdr] at hg
   have hcl := (b[i]).toNat_lt
   generalize hc : b[i] = c at hx hg hcl
   have hbeq9 : ((i : Int) == 9) = decide (i = 9) := by rw [Bool.eq_iff_iff]; simp; omega
   have hgt1 : decide ((1 : Int) < c.toNat) = decide (1 < c.toNat) := by rw [Bool.eq_iff_iff]; simp; omega
   have hgt0 : decide ((0 : Int) < i) = decide (0 < i) := by rw [Bool.eq_iff_iff]; simp
   have hbeq0 : ((c.toNat : Int) == 0) = decide (c.toNat = 0) := by rw [Bool.eq_iff_iff]; simp
   have h128 : decide ((c.toNat : Int) < 128) = decide (c.toNat < 128) := by rw [Bool.eq_iff_iff]; simp; omega
   simp only [getN] at hg
   by_cases hbad : (i = 9 ∧ 1 < c.toNat) ∨ (0 < i ∧ c.toNat = 0)
   · rw [if_pos hbad] at hg
     simp only [Option.map_none] at hg
     rw [getV_none hg]
     rcases hbad with ⟨h1, h2⟩ | ⟨h1, h2⟩
     · simp -implicitDefEqProofs only [mkE, go_sem, byv_len, nat_lt hlt, dec_lt hlt, hx, bc, hbeq9, hgt1, decide_eq_true h1, decide_eq_true h2]
       exact Fini.ret rfl
     · by_cases h3 : i = 9
       · have h4 : decide (1 < c.toNat) = false := decide_eq_false (by omega)
         simp -implicitDefEqProofs only [mkE, go_sem, byv_len, nat_lt hlt, dec_lt hlt, hx, bc, hbeq9, hgt1, hgt0, hbeq0, decide_eq_true h1, decide_eq_true h2, decide_eq_true h3, h4]
         exact Fini.ret rfl
       · simp -implicitDefEqProofs only [mkE, go_sem, byv_len, nat_lt hlt, dec_lt hlt, hx, bc, hbeq9, hgt1, hgt0, hbeq0, decide_eq_true h1, decide_eq_true h2, decide_eq_false h3]
         exact Fini.ret rfl
   · rw [if_neg hbad] at hg
     have hs : 7 * i < 64 := by omega
     have hd : c.toNat % 128 * 2 ^ (7 * i) < 18446744073709551616 := by
      by_cases h3 : i = 9
      · subst h3
        have : c.toNat ≤ 1 := by omega
        have : c.toNat % 128 ≤ 1 := by omega
        calc c.toNat % 128 * 2 ^ (7 * 9) ≤ 1 * 2 ^ 63 := Nat.mul_le_mul_right _ this
         _ < 18446744073709551616 := by decide
      · have h4 : c.toNat % 128 < 2 ^ 7 := Nat.mod_lt _ (by decide)
        calc c.toNat % 128 * 2 ^ (7 * i) < 2 ^ 7 * 2 ^ (7 * i) := Nat.mul_lt_mul_of_pos_right h4 (Nat.two_pow_pos _)
         _ = 2 ^ (7 + 7 * i) := by rw [Nat.pow_add]
         _ ≤ 2 ^ 63 := Nat.pow_le_pow_right (by decide) (by omega)
         _ < 18446744073709551616 := by decide
     have hor := orT_eq a c (7 * i) ha hs hd
     have hin := wrap_succ (i := i) (by omega)
     have h7 := wrap_mul7 (i := i) (by omega)
     have go : ∀ (P : Prop), (decide (i = 9) = true → decide (1 < c.toNat) = false → P) → (decide (i = 9) = false → P) → P := fun P p q => by
      by_cases h3 : i = 9
      · exact p (decide_eq_true h3) (decide_eq_false (by omega))
      · exact q (decide_eq_false h3)
     have go2 : ∀ (P : Prop), (decide (0 < i) = true → decide (c.toNat = 0) = false → P) → (decide (0 < i) = false → P) → P := fun P p q => by
      by_cases h3 : 0 < i
      · exact p (decide_eq_true h3) (decide_eq_false (by omega))
      · exact q (decide_eq_false h3)
     by_cases hend : c.toNat < 128
     · have e128 := decide_eq_true hend
       rw [if_pos hend] at hg
       simp only [Option.map_some] at hg
       rw [getV_some hg]
       have hmod : c.toNat % 128 = c.toNat := Nat.mod_eq_of_lt hend
       have hfin : ∀ v : Int, v = ((a + 2 ^ (7 * i) * (c.toNat % 128) : Nat) : Int) → (.tup [.pl (.int .u64 v), I ((i + 1 : Nat) : Int), Bo true] : AV) = .tup [UN (a + 2 ^ (7 * i) * c.toNat), I (b.length - (b.drop (i + 1)).length : Nat), Bo true] := by
        rintro _ rfl
        rw [hmod, List.length_drop, show b.length - (b.length - (i + 1)) = i + 1 by omega]
       refine go _ (fun x1 x2 => go2 _ (fun y1 y2 => ?_) fun y1 => ?_) fun x1 => go2 _ (fun y1 y2 => ?_) fun y1 => ?_
       · simp -implicitDefEqProofs only [mkE, go_sem, byv_len, nat_lt hlt, dec_lt hlt, hx, bc, hbeq9, hgt1, hgt0, hbeq0, x1, x2, y1, y2, h7, h128, e128, hin]
         exact Fini.ret' rfl (hfin _ hor)
       · simp -implicitDefEqProofs only [mkE, go_sem, byv_len, nat_lt hlt, dec_lt hlt, hx, bc, hbeq9, hgt1, hgt0, hbeq0, x1, x2, y1, h7, h128, e128, hin]
         exact Fini.ret' rfl (hfin _ hor)
       · simp -implicitDefEqProofs only [mkE, go_sem, byv_len, nat_lt hlt, dec_lt hlt, hx, bc, hbeq9, hgt1, hgt0, hbeq0, x1, y1, y2, h7, h128, e128, hin]
         exact Fini.ret' rfl (hfin _ hor)
       · simp -implicitDefEqProofs only [mkE, go_sem, byv_len, nat_lt hlt, dec_lt hlt, hx, bc, hbeq9, hgt1, hgt0, hbeq0, x1, y1, h7, h128, e128, hin]
         exact Fini.ret' rfl (hfin _ hor)
     · have e128 := decide_eq_false hend
       rw [if_neg hend] at hg
       have hi9 : i < 9 := by
        rcases Nat.lt_or_eq_of_le h9 with h | h
        · exact h
        · omega
       have hgo := hJ ⟨(i + 1, a + 2 ^ (7 * i) * (c.toNat % 128)), by simp only; omega, by simp only; omega, (by
        simp only
        have e1 : 2 ^ (7 * (i + 1)) = 2 ^ (7 * i) * 128 := by rw [Nat.mul_add, Nat.pow_add]
        have : c.toNat % 128 < 128 := Nat.mod_lt _ (by decide)
        have : 2 ^ (7 * i) * (c.toNat % 128 + 1) ≤ 2 ^ (7 * i) * 128 := Nat.mul_le_mul_left _ this
        rw [Nat.mul_add, Nat.mul_one] at this
        omega), (by
        simp only
        rw [hg]
        have hm : c.toNat % 128 = c.toNat - 128 := by omega
        cases getN (i + 1) (b.drop (i + 1)) with
        | none => rfl
        | some q =>
          simp only [Option.map_some, Option.some.injEq, Prod.mk.injEq, and_true]
          rw [hm, show 7 * (i + 1) = 7 * i + 7 by omega, Nat.pow_add, Nat.mul_add, Nat.add_assoc, ← Nat.mul_assoc])⟩ (by simp only; omega)
       have key : ∀ v : Int, v = ((a + 2 ^ (7 * i) * (c.toNat % 128) : Nat) : Int) → J (mkE 43 [(5, .pl (.int .u64 v)), (8, .sl 1 (byv b)), (9, I b.length), (10, I ((i + 1 : Nat) : Int))]) σ := by
        rintro _ rfl
        exact hgo
       refine go _ (fun x1 x2 => go2 _ (fun y1 y2 => ?_) fun y1 => ?_) fun x1 => go2 _ (fun y1 y2 => ?_) fun y1 => ?_
       · simp -implicitDefEqProofs only [mkE, go_sem, byv_len, nat_lt hlt, dec_lt hlt, hx, bc, hbeq9, hgt1, hgt0, hbeq0, x1, x2, y1, y2, h7, h128, e128, hin]
         exact key _ hor
       · simp -implicitDefEqProofs only [mkE, go_sem, byv_len, nat_lt hlt, dec_lt hlt, hx, bc, hbeq9, hgt1, hgt0, hbeq0, x1, x2, y1, h7, h128, e128, hin]
         exact key _ hor
       · simp -implicitDefEqProofs only [mkE, go_sem, byv_len, nat_lt hlt, dec_lt hlt, hx, bc, hbeq9, hgt1, hgt0, hbeq0, x1, y1, y2, h7, h128, e128, hin]
         exact key _ hor
       · simp -implicitDefEqProofs only [mkE, go_sem, byv_len, nat_lt hlt, dec_lt hlt, hx, bc, hbeq9, hgt1, hgt0, hbeq0, x1, y1, h7, h128, e128, hin]
         exact key _ hor
 · have hn : b.drop i = [] := List.drop_eq_nil_of_le (by omega)
   rw [hn] at hg
   simp only [getN, Option.map_none] at hg
   rw [getV_none hg]
   simp -implicitDefEqProofs only [mkE, go_sem, byv_len, nat_nlt hlt, dec_nlt hlt]
   exact Fini.ret rfl
end
end Go.Proofs.YtmkmhhjkdaklbaaGreat
namespace Go.Proofs.YtmkmhhjkdaklbaaGreat
open Go Go.Ab Go.Cod
set_option maxRecDepth 100000
def textV (most : Nat) (b : Byt) : AV := match textR most b with
 | some p => .tup [Sx p.1, I (b.length - p.2.length : Nat), Bo true]
 | none => .tup [Sx ⟨#[]⟩, I 0, Bo false]
theorem textV_none {most : Nat} {b : Byt} (h : textR most b = none) : textV most b = .tup [Sx ⟨#[]⟩, I 0, Bo false] := by unfold textV; rw [h]
theorem textV_some {most : Nat} {b : Byt} {s : ByteArray} {t : Byt} (h : textR most b = some (s, t)) : textV most b = .tup [Sx s, I (b.length - t.length : Nat), Bo true] := by unfold textV; rw [h]
theorem textR_none {most : Nat} {b : Byt} (h : getN 0 b = none) : textR most b = none := by simp only [textR, numR, h, Option.bind_none]
theorem textR_of {most : Nat} {b : Byt} {n : Nat} {t : Byt} (h : getN 0 b = some (n, t)) : textR most b = if n ≤ most ∧ n ≤ t.length then some (⟨(t.take n).toArray⟩, t.drop n) else none := by
 simp only [textR, numR, h, Option.bind_some]
 by_cases h1 : n ≤ most
 · simp only [h1, if_true, Option.bind_some, true_and]
 · simp only [h1, if_false, Option.bind_none, false_and]
theorem decNN (a b : Nat) : decide ((a : Int) < (b : Int)) = decide (a < b) := by rw [Bool.eq_iff_iff]; simp
theorem subN {a b : Nat} (h : b ≤ a) (ha : a ≤ 100000) : IntKind.i64.wrap ((a : Int) - (b : Int)) = ((a - b : Nat) : Int) := by rw [wrapN (by omega) (by omega)]; omega
theorem addN {a b : Nat} (h : a + b ≤ 100000) : IntKind.i64.wrap ((a : Int) + (b : Int)) = ((a + b : Nat) : Int) := by rw [wrapN (by omega) (by omega)]; omega
theorem wrapI {a : Nat} (h : a < 9223372036854775808) : IntKind.i64.wrap (a : Int) = (a : Int) := wrapN (by omega) (by omega)
section
variable (σ : St)
theorem gettext_ans (b : Byt) (most : Nat) (hb : b.length ≤ 100000) (hm : most < 9223372036854775808) : Ans Tryz.prog 116 [.sl 1 (byv b), I most] σ (textV most b) σ := by
 refine Ans.of_run t116 ?_
 simp -implicitDefEqProofs only [c116, r116, go_sem]
 refine CO.intro (get_ans' σ b hb) ?_
 have hneg : decide ((most : Int) < 0) = false := by simp
 have hwm := wrapUN (n := most) (by omega)
 cases hg : getN 0 b with
 | none =>
   rw [getV_none hg, textV_none (textR_none hg)]
   simp -implicitDefEqProofs only [go_sem]
   exact Fini.ret rfl
 | some p =>
   obtain ⟨n, t⟩ := p
   obtain ⟨hbt, hn, _⟩ := getN_inv b 0 n t (by omega) hg
   have hn : n < 18446744073709551616 := hn
   have hlen : b.length = (putN n).length + t.length := by rw [hbt, List.length_append]
   have hk : b.length - t.length = (putN n).length := by omega
   have hsub := subN (a := b.length) (b := (putN n).length) (by omega) hb
   have hsub2 : b.length - (putN n).length = t.length := by omega
   have hwt := wrapUN (n := t.length) (by omega)
   have e1 : decide ((most : Int) < n) = decide (most < n) := decNN most n
   have e2 : decide ((t.length : Int) < n) = decide (t.length < n) := decNN _ n
   rw [getV_some hg, hk]
   have hR := textR_of (most := most) hg
   by_cases h1 : n ≤ most
   · have x1 : decide (most < n) = false := decide_eq_false (by omega)
     by_cases h2 : n ≤ t.length
     · have x2 : decide (t.length < n) = false := decide_eq_false (by omega)
       rw [if_pos ⟨h1, h2⟩] at hR
       have hwn := wrapI (a := n) (by omega)
       have hadd := addN (a := (putN n).length) (b := n) (by omega)
       have hlo : ((putN n).length : Int) ≤ ((putN n).length + n : Nat) := by omega
       have hhi : (((putN n).length + n : Nat) : Int) ≤ (b.length : Nat) := by omega
       have hcut : (b.take ((putN n).length + n)).drop (putN n).length = t.take n := by
        rw [hbt, List.take_append, List.take_of_length_le (by omega), Nat.add_sub_cancel_left, List.drop_left]
       rw [textV_some hR]
       simp -implicitDefEqProofs only [go_sem, hneg, hwm, e1, x1, hsub, hsub2, hwt, e2, x2, hwn, hadd, byv_len, hlo, hhi, AV.isStr, byv_take, byv_drop, hcut, byv_all', bc, byteL_byv, textOf_byv]
       refine Fini.ret' rfl ?_
       rw [List.length_drop]
       have : b.length - (t.length - n) = (putN n).length + n := by omega
       rw [this]; rfl
     · have x2 : decide (t.length < n) = true := decide_eq_true (by omega)
       rw [if_neg (by omega)] at hR
       rw [textV_none hR]
       simp -implicitDefEqProofs only [go_sem, hneg, hwm, e1, x1, byv_len, hsub, hsub2, hwt, e2, x2]
       exact Fini.ret rfl
   · have x1 : decide (most < n) = true := decide_eq_true (by omega)
     rw [if_neg (by omega)] at hR
     rw [textV_none hR]
     simp -implicitDefEqProofs only [go_sem, hneg, hwm, e1, x1]
     exact Fini.ret rfl
end
abbrev rob (b : Byt) (q : Nat × Bool) : Ob := .box [.sl 1 (byv b), I q.1, Bo q.2]
theorem get_set_eq' {σ : St} {p : Nat} {o : Ob} (h : σ[p]? = some o) (x : Ob) : (σ.set p x)[p]? = some x := by
 have := (List.getElem?_eq_some_iff.1 h).1
 simp [this]
section
variable (σ : St) (p : Nat) (b : Byt) (q : Nat × Bool)
theorem new_ans : Ans Tryz.prog 54 [.sl 1 (byv b)] σ (.ptr σ.length 0) (σ ++ [rob b (0, false)]) := by
 refine Ans.of_run t54 ?_
 simp -implicitDefEqProofs only [c54, r54, go_sem]
 exact Fini.ret rfl
theorem rest_ans (h : σ[p]? = some (rob b q)) (hq : q.1 ≤ b.length) : Ans Tryz.prog 112 [.ptr p 0] σ (.sl 1 (byv (b.drop q.1))) σ := by
 have h1 : (q.1 : Int) ≤ (b.length : Nat) := by omega
 refine Ans.of_run t112 ?_
 simp -implicitDefEqProofs only [c112, r112, go_sem, h, byv_len, h1, byv_take, byv_drop, List.take_length, Int.le_refl]
 exact Fini.ret rfl
theorem took_ans (n : Nat) (ok : Bool) (h : σ[p]? = some (rob b q)) (hn : q.1 + n ≤ 100000) : Ans Tryz.prog 113 [.ptr p 0, I n, Bo ok] σ (Bo !(took q n ok).2) (σ.set p (rob b (took q n ok))) := by
 obtain ⟨a, bad⟩ := q
 have h9 : ∀ x, (σ.set p x)[p]? = some x := get_set_eq' h
 have hadd := addN (a := a) (b := n) hn
 unfold took
 refine Ans.of_run t113 ?_
 cases bad with
 | true =>
   simp -implicitDefEqProofs only [c113, r113, go_sem, h, h9]
   exact Fini.ret rfl
 | false =>
   cases ok with
   | true =>
     simp -implicitDefEqProofs only [c113, r113, go_sem, h, h9, hadd, List.set_set]
     exact Fini.ret rfl
   | false =>
     simp -implicitDefEqProofs only [c113, r113, go_sem, h, h9]
     exact Fini.ret rfl
end
end Go.Proofs.YtmkmhhjkdaklbaaGreat
namespace Go.Proofs.YtmkmhhjkdaklbaaGreat
open Go Go.Ab Go.Cod
set_option maxRecDepth 100000
section
variable (σ : St) (p : Nat) (b : Byt) (q : Nat × Bool)
theorem num_ans (most : Nat) (hm : most < 18446744073709551616) (h : σ[p]? = some (rob b q)) (hq : Inb b q) (hb : b.length ≤ 50000) :
  Ans Tryz.prog 59 [.ptr p 0, UN most] σ (UN (runR (numR most) 0 b q).1) (σ.set p (rob b (runR (numR most) 0 b q).2)) := by
 refine Ans.of_run t59 ?_
 simp -implicitDefEqProofs only [c59, r59, go_sem]
 refine CO.intro (rest_ans σ p b q h hq) ?_
 simp -implicitDefEqProofs only [go_sem]
 refine CO.intro (get_ans' σ (b.drop q.1) (by rw [List.length_drop]; omega)) ?_
 obtain ⟨a, bad⟩ := q
 simp only at hq h ⊢
 have hq : a ≤ b.length := hq
 cases hg : getN 0 (b.drop a) with
 | none =>
   have hR : numR most (b.drop a) = none := by simp only [numR, hg, Option.bind_none]
   have ht := took_ans σ p b (a, bad) 0 false h (by simp only; omega)
   have ht : Ans Tryz.prog 113 [.ptr p 0, I 0, Bo false] σ (Bo false) (σ.set p (rob b (a, true))) := by
    have e : took (a, bad) 0 false = (a, true) := by cases bad <;> rfl
    rw [e] at ht; exact ht
   rw [getV_none hg]
   simp -implicitDefEqProofs only [go_sem]
   refine CO.intro ht ?_
   simp -implicitDefEqProofs only [go_sem]
   cases bad with
   | true => rw [runR_bad]; exact Fini.ret rfl
   | false => rw [runR_none hR]; exact Fini.ret rfl
 | some x =>
   obtain ⟨n, t⟩ := x
   rw [getV_some hg]
   have hl := getN_len hg
   rw [List.length_drop] at hl
   have e1 : decide ((n : Int) ≤ most) = decide (n ≤ most) := intle n most
   have ht := took_ans σ p b (a, bad) ((b.drop a).length - t.length) (decide (n ≤ most)) h (by simp only [List.length_drop]; omega)
   by_cases h1 : n ≤ most
   · have x1 : decide (n ≤ most) = true := decide_eq_true h1
     rw [x1] at ht
     have hR : numR most (b.drop a) = some (n, t) := by simp only [numR, hg, Option.bind_some, h1, if_true]
     simp -implicitDefEqProofs only [go_sem, e1, x1]
     refine CO.intro ht ?_
     cases bad with
     | true =>
       have e : took (a, true) ((b.drop a).length - t.length) true = (a, true) := rfl
       rw [e, runR_bad]
       simp -implicitDefEqProofs only [go_sem]
       exact Fini.ret rfl
     | false =>
       have e : took (a, false) ((b.drop a).length - t.length) true = (b.length - t.length, false) := by
        simp only [took, Bool.false_or, Bool.not_true, Bool.false_eq_true, if_false, List.length_drop]
        congr 1; omega
       rw [e, runR_some hR]
       simp -implicitDefEqProofs only [go_sem]
       exact Fini.ret rfl
   · have x1 : decide (n ≤ most) = false := decide_eq_false h1
     rw [x1] at ht
     have hR : numR most (b.drop a) = none := by simp only [numR, hg, Option.bind_some, h1, if_false]
     have e : took (a, bad) ((b.drop a).length - t.length) false = (a, true) := by cases bad <;> rfl
     rw [e] at ht
     simp -implicitDefEqProofs only [go_sem, e1, x1]
     refine CO.intro ht ?_
     simp -implicitDefEqProofs only [go_sem]
     cases bad with
     | true => rw [runR_bad]; exact Fini.ret rfl
     | false => rw [runR_none hR]; exact Fini.ret rfl
theorem text_ans (most : Nat) (hm : most < 9223372036854775808) (h : σ[p]? = some (rob b q)) (hq : Inb b q) (hb : b.length ≤ 50000) :
  Ans Tryz.prog 60 [.ptr p 0, I most] σ (Sx (runR (textR most) ⟨#[]⟩ b q).1) (σ.set p (rob b (runR (textR most) ⟨#[]⟩ b q).2)) := by
 refine Ans.of_run t60 ?_
 simp -implicitDefEqProofs only [c60, r60, go_sem]
 refine CO.intro (rest_ans σ p b q h hq) ?_
 simp -implicitDefEqProofs only [go_sem]
 refine CO.intro (gettext_ans σ (b.drop q.1) most (by rw [List.length_drop]; omega) hm) ?_
 obtain ⟨a, bad⟩ := q
 simp only at hq h ⊢
 have hq : a ≤ b.length := hq
 cases hg : textR most (b.drop a) with
 | none =>
   have ht := took_ans σ p b (a, bad) 0 false h (by simp only; omega)
   have ht : Ans Tryz.prog 113 [.ptr p 0, I 0, Bo false] σ (Bo false) (σ.set p (rob b (a, true))) := by
    have e : took (a, bad) 0 false = (a, true) := by cases bad <;> rfl
    rw [e] at ht; exact ht
   rw [textV_none hg]
   simp -implicitDefEqProofs only [go_sem]
   refine CO.intro ht ?_
   simp -implicitDefEqProofs only [go_sem]
   cases bad with
   | true => rw [runR_bad]; exact Fini.ret rfl
   | false => rw [runR_none hg]; exact Fini.ret rfl
 | some x =>
   obtain ⟨n, t⟩ := x
   rw [textV_some hg]
   have hl := ((text_fits (most := most) (by omega)).rest hg).1
   rw [List.length_drop] at hl
   have ht := took_ans σ p b (a, bad) ((b.drop a).length - t.length) true h (by simp only [List.length_drop]; omega)
   simp -implicitDefEqProofs only [go_sem]
   refine CO.intro ht ?_
   cases bad with
   | true =>
     have e : took (a, true) ((b.drop a).length - t.length) true = (a, true) := rfl
     rw [e, runR_bad]
     simp -implicitDefEqProofs only [go_sem]
     exact Fini.ret rfl
   | false =>
     have e : took (a, false) ((b.drop a).length - t.length) true = (b.length - t.length, false) := by
      simp only [took, Bool.false_or, Bool.not_true, Bool.false_eq_true, if_false, List.length_drop]
      congr 1; omega
     rw [e, runR_some hg]
     simp -implicitDefEqProofs only [go_sem]
     exact Fini.ret rfl
theorem byte_ans' (h : σ[p]? = some (rob b q)) (hq : Inb b q) (hb : b.length ≤ 50000) :
  Ans Tryz.prog 83 [.ptr p 0] σ (bc (runR byteR 0 b q).1) (σ.set p (rob b (runR byteR 0 b q).2)) := by
 refine Ans.of_run t83 ?_
 simp -implicitDefEqProofs only [c83, r83, go_sem]
 refine CO.intro (rest_ans σ p b q h hq) ?_
 obtain ⟨a, bad⟩ := q
 simp only at hq h ⊢
 have hq : a ≤ b.length := hq
 cases hg : b.drop a with
 | nil =>
   have hR : byteR (b.drop a) = none := by rw [hg]; rfl
   have d0 : decide ((0 : Int) < ((0 : Nat) : Int)) = false := by simp
   have ht := took_ans σ p b (a, bad) 1 false h (by simp only; omega)
   have e : took (a, bad) 1 false = (a, true) := by cases bad <;> rfl
   rw [e] at ht
   simp -implicitDefEqProofs only [go_sem, byv_nil, d0]
   refine CO.intro ht ?_
   simp -implicitDefEqProofs only [go_sem]
   cases bad with
   | true => rw [runR_bad]; exact Fini.ret rfl
   | false => rw [runR_none hR]; exact Fini.ret rfl
 | cons c t =>
   have hR : byteR (b.drop a) = some (c, t) := by rw [hg]; rfl
   have hl : b.length - a = t.length + 1 := by rw [← List.length_drop, hg]; rfl
   have d0 : decide ((0 : Int) < (((byv t).length + 1 : Nat) : Int)) = true := by simp
   have ht := took_ans σ p b (a, bad) 1 true h (by simp only; omega)
   simp -implicitDefEqProofs only [go_sem, byv_cons, d0]
   refine CO.intro ht ?_
   cases bad with
   | true =>
     have e : took (a, true) 1 true = (a, true) := rfl
     rw [e, runR_bad]
     simp -implicitDefEqProofs only [go_sem]
     exact Fini.ret rfl
   | false =>
     have e : took (a, false) 1 true = (b.length - t.length, false) := by
      simp only [took, Bool.false_or, Bool.not_true, Bool.false_eq_true, if_false]
      congr 1; omega
     rw [e, runR_some hR]
     simp -implicitDefEqProofs only [go_sem, bc, Int.toNat_zero]
     exact Fini.ret rfl
theorem refuse_ans (ok : Bool) (h : σ[p]? = some (rob b q)) (hq : Inb b q) (hb : b.length ≤ 50000) :
  Ans Tryz.prog 61 [.ptr p 0, Bo ok] σ (.tup []) (σ.set p (rob b (took q 0 ok))) := by
 have hq : q.1 ≤ b.length := hq
 refine Ans.of_run t61 ?_
 simp -implicitDefEqProofs only [c61, r61, go_sem]
 refine CO.intro (took_ans σ p b q 0 ok h (by omega)) ?_
 simp -implicitDefEqProofs only [go_sem]
 exact Fini.normal rfl
theorem end_ans (h : σ[p]? = some (rob b q)) : Ans Tryz.prog 62 [.ptr p 0] σ (.tup [I (if q.2 then 0 else q.1 : Nat), Bo !q.2]) σ := by
 obtain ⟨a, bad⟩ := q
 refine Ans.of_run t62 ?_
 cases bad with
 | true =>
   simp -implicitDefEqProofs only [c62, r62, go_sem, h]
   exact Fini.ret rfl
 | false =>
   simp -implicitDefEqProofs only [c62, r62, go_sem, h]
   exact Fini.ret rfl
end
end Go.Proofs.YtmkmhhjkdaklbaaGreat
namespace Go.Proofs.YtmkmhhjkdaklbaaGreat
open Go Go.Ab
set_option maxRecDepth 100000
abbrev U (n : Int) : AV := .pl (.int .u64 n)
inductive Rex where
 | mk (op a b c d : Int) (ks : List Rex)
namespace Rex
def op : Rex → Int | .mk op _ _ _ _ _ => op
def a : Rex → Int | .mk _ a _ _ _ _ => a
def b : Rex → Int | .mk _ _ b _ _ _ => b
def c : Rex → Int | .mk _ _ _ c _ _ => c
def d : Rex → Int | .mk _ _ _ _ d _ => d
def ks : Rex → List Rex | .mk _ _ _ _ _ ks => ks
mutual
def av : Rex → AV
 | .mk op a b c d ks => .agg [I op, U a, U b, U c, U d, .sl 6 (avL ks)]
def avL : List Rex → List AV
 | [] => []
 | x :: xs => av x :: avL xs
end
theorem avL_eq : ∀ l : List Rex, avL l = l.map av
 | [] => rfl
 | x :: xs => by rw [avL, avL_eq xs]; rfl
theorem av_eq (x : Rex) : x.av = .agg [I x.op, U x.a, U x.b, U x.c, U x.d, .sl 6 (x.ks.map av)] := by
 cases x; simp only [av, op, a, b, c, d, ks, avL_eq]
theorem lt_of_mem {x y : Rex} (h : y ∈ x.ks) : SizeOf.sizeOf y < SizeOf.sizeOf x := by
 cases x
 have := List.sizeOf_lt_of_mem h
 simp only [ks] at this
 simp
 omega
mutual
def cut : Rex → Int → Int
 | .mk _ _ _ _ _ ks, most => cutL ks most 1
def cutL : List Rex → Int → Int → Int
 | [], _, n => n
 | x :: xs, most, n => if n ≤ most then cutL xs most (n + cut x (most - n)) else n
end
def run (ks : List Rex) (most : Int) : Nat → Int
 | 0 => 1
 | i + 1 => match ks[i]? with
   | some x => run ks most i + x.cut (most - run ks most i)
   | none => run ks most i
end Rex
open Rex
section
variable (σ : St)
end
end Go.Proofs.YtmkmhhjkdaklbaaGreat
namespace Go.Proofs.YtmkmhhjkdaklbaaGreat
open Go Go.Ab
set_option maxRecDepth 100000
namespace Rex
mutual
def size : Rex → Int
 | .mk op _ _ _ _ ks => if op == 1 then 1 else if op == 3 then sizeL ks + 2 * ((ks.length : Int) - 1) else if op == 4 then sizeL ks + 2 else if op == 5 then sizeL ks + 1 else if op == 6 then sizeL ks + 1 else sizeL ks
def sizeL : List Rex → Int
 | [] => 0
 | x :: xs => size x + sizeL xs
end
def plain (x : Rex) : Bool := x.a == 0 && (x.b == 0 && (x.c == 0 && (x.d == 0 && true)))
end Rex
open Rex
section
variable (σ : St)
end
end Go.Proofs.YtmkmhhjkdaklbaaGreat
namespace Go.Proofs.YtmkmhhjkdaklbaaGreat
open Go Go.Ab
set_option maxRecDepth 100000
structure Stp where
 op : Int
 a : Int
 b : Int
 c : Int
 d : Int
 x : Int
 y : Int
def Stp.av (s : Stp) : AV := .agg [I s.op, U s.a, U s.b, U s.c, U s.d, I s.x, I s.y]
def inR (n at_ : Int) : Bool := decide (0 ≤ at_) && decide (at_ < n)
def Stp.none (s : Stp) : Bool := s.a == 0 && (s.b == 0 && (s.c == 0 && (s.d == 0 && true)))
def rightS (s : Stp) (n : Int) (last : Bool) : Bool :=
 if (s.op != 1) && !s.none then false
 else if s.op == 1 then (s.x == 0 && s.y == 0) && !last
 else if s.op == 2 then inR n s.x && inR n s.y
 else if s.op == 3 then inR n s.x && s.y == 0
 else (s.op == 4 && s.x == 0) && s.y == 0
section
variable (σ : St)
def pcheck (ys : List Stp) : Bool :=
 if decide ((ys.length : Int) < 1) then false else if decide ((40 : Int) < ys.length) then false
 else !((ys.take (ys.length - 1)).any fun s => !rightS s ys.length false) && (match ys[ys.length - 1]? with | some s => rightS s ys.length true | none => false)
end
end Go.Proofs.YtmkmhhjkdaklbaaGreat
namespace Go.Proofs.YtmkmhhjkdaklbaaGreat
open Go Go.Ab
set_option maxRecDepth 100000
abbrev W (b : BitVec 64) : AV := U (b.toNat : Int)
end Go.Proofs.YtmkmhhjkdaklbaaGreat
namespace Go.Proofs.YtmkmhhjkdaklbaaGreat
open Go Go.Ab
set_option maxRecDepth 100000
namespace Rex
mutual
def lay : Nat → Rex → List Stp
 | n, .mk op a b c d ks =>
   if op == 1 then [⟨1, a, b, c, d, 0, 0⟩]
   else if op == 2 then layL n ks
   else if op == 3 then layW n ((n + (layW n 0 ks).length : Nat) : Int) ks
   else if op == 4 then ⟨2, 0, 0, 0, 0, (n : Int) + 1, ((n + 2 + (layH (n + 1) ks).length : Nat) : Int)⟩ :: (layH (n + 1) ks ++ [⟨3, 0, 0, 0, 0, (n : Int), 0⟩])
   else if op == 5 then layH n ks ++ [⟨2, 0, 0, 0, 0, (n : Int), ((n + (layH n ks).length : Nat) : Int) + 1⟩]
   else if op == 6 then ⟨2, 0, 0, 0, 0, (n : Int) + 1, ((n + 1 + (layH (n + 1) ks).length : Nat) : Int)⟩ :: layH (n + 1) ks
   else []
def layL : Nat → List Rex → List Stp
 | _, [] => []
 | n, x :: xs => lay n x ++ layL (n + (lay n x).length) xs
def layH : Nat → List Rex → List Stp
 | _, [] => []
 | n, x :: _ => lay n x
def layW : Nat → Int → List Rex → List Stp
 | _, _, [] => []
 | n, fin, x :: xs => if xs.isEmpty then lay n x else
   ⟨2, 0, 0, 0, 0, (n : Int) + 1, ((n + 2 + (lay (n + 1) x).length : Nat) : Int)⟩ :: (lay (n + 1) x ++ (⟨3, 0, 0, 0, 0, fin, 0⟩ :: layW (n + 2 + (lay (n + 1) x).length) fin xs))
end
end Rex
end Go.Proofs.YtmkmhhjkdaklbaaGreat
namespace Go.Proofs.YtmkmhhjkdaklbaaGreat
open Go Go.Ab
set_option maxRecDepth 100000
open Rex
def rowV (k : Nat) (L : List AV) : AV := if L.isEmpty then .nils else .osl k L.length
def rowS (sz : Nat) (A : St) (L : List AV) (E : St) : St := if L.isEmpty then A ++ E else A ++ .row sz L :: E
theorem rowV_ne {k : Nat} {L : List AV} (h : L ≠ []) : rowV k L = .osl k L.length := by simp [rowV, h]
theorem rowS_ne {sz : Nat} {A E : St} {L : List AV} (h : L ≠ []) : rowS sz A L E = A ++ .row sz L :: E := by simp [rowS, h]
abbrev sv (l : List Stp) : List AV := l.map Stp.av
theorem sv_ne {l : List Stp} (h : l ≠ []) : sv l ≠ [] := by simpa [sv] using h
def Lays (x : Rex) : Prop := ∀ (ls : List Stp) (A E : St), (ls = [] → E = []) → (ls.length : Int) + x.size ≤ 1000 →
 Ans Tryz.prog 195 [rowV A.length (sv ls), x.av] (rowS 7 A (sv ls) E) (rowV A.length (sv (ls ++ lay ls.length x))) (rowS 7 A (sv (ls ++ lay ls.length x)) E)
theorem Lays.own {x : Rex} (h : Lays x) (ls : List Stp) (A E : St) (hne : ls ≠ []) (hb : (ls.length : Int) + x.size ≤ 1000) :
  Ans Tryz.prog 195 [.osl A.length ls.length, x.av] (A ++ .row 7 (sv ls) :: E) (.osl A.length (ls.length + (lay ls.length x).length)) (A ++ .row 7 (sv (ls ++ lay ls.length x)) :: E) := by
 have := h ls A E (fun e => absurd e hne) hb
 rw [rowV_ne (sv_ne hne), rowS_ne (sv_ne hne), rowV_ne (sv_ne (by simp [hne])), rowS_ne (sv_ne (by simp [hne]))] at this
 simpa [sv] using this
end Go.Proofs.YtmkmhhjkdaklbaaGreat
namespace Go.Proofs.YtmkmhhjkdaklbaaGreat
open Go Go.Ab
set_option maxRecDepth 100000
open Rex
theorem p32 : (1 ≤ 2 ^ 32) = True := by simp
theorem w1 : IntKind.i64.wrap 1 = 1 := by decide
end Go.Proofs.YtmkmhhjkdaklbaaGreat
namespace Go.Proofs.YtmkmhhjkdaklbaaGreat
open Go Go.Ab
set_option maxRecDepth 100000
abbrev B8 (n : Int) : AV := .pl (.int .u8 n)
abbrev pob (s : ByteArray) (at_ : Nat) (bad : Bool) : Ob := .box [Sx s, I at_, Bo bad]
def byteAt (s : ByteArray) (a : Nat) : Nat := (s.data.toList.getD a 0).toNat
theorem byteAt_def (s : ByteArray) (a : Nat) : (s.data.toList.getD a 0).toNat = byteAt s a := rfl
theorem byteAt_lt (s : ByteArray) (a : Nat) : byteAt s a < 256 := (s.data.toList.getD a 0).toNat_lt
theorem beq_cast (a b : Nat) : ((a : Int) == (b : Int)) = (a == b) := by
 rw [Bool.eq_iff_iff]; simp only [beq_iff_eq]; omega
theorem set_same {σ : St} {p : Nat} {o : Ob} (h : σ[p]? = some o) : σ.set p o = σ := by
 apply List.ext_getElem?
 intro i
 rw [List.getElem?_set]
 split
 · rename_i e; subst e
   have : p < σ.length := (List.getElem?_eq_some_iff.1 h).1
   simp only [this, if_true, h]
 · rfl
theorem wrap_nat {n : Nat} (h : n ≤ 4294967296) : IntKind.i64.wrap ((n : Int) + 1) = ((n + 1 : Nat) : Int) := by
 simp only [IntKind.wrap, IntKind.bits, IntKind.signed]; simp; omega
def over (s : ByteArray) (a : Nat) (bad : Bool) : Bool := bad || decide (s.size ≤ a)
def sees (s : ByteArray) (a : Nat) (bad : Bool) (c : Nat) : Bool := !over s a bad && (byteAt s a == c)
def nextA (s : ByteArray) (a : Nat) (bad : Bool) (c : Nat) : Nat := if sees s a bad c then a + 1 else a
def pbyte (s : ByteArray) (a : Nat) (bad : Bool) : Nat × Nat × Bool := if over s a bad then (0, a, true) else (byteAt s a, a + 1, bad)
def signs : List Nat := [124, 42, 43, 63, 40, 41, 91, 93, 46, 92, 94, 45]
def within : List Nat := [92, 93, 91, 94, 45]
def psign (s : ByteArray) (a : Nat) (bad : Bool) : Nat × Nat × Bool :=
 ((pbyte s a bad).1, (pbyte s a bad).2.1, (pbyte s a bad).2.2 || !signs.contains (pbyte s a bad).1)
def pmember (s : ByteArray) (a : Nat) (bad : Bool) : Nat × Nat × Bool :=
 if (pbyte s a bad).1 == 92 then psign s (pbyte s a bad).2.1 (pbyte s a bad).2.2
 else ((pbyte s a bad).1, (pbyte s a bad).2.1, (pbyte s a bad).2.2 || within.contains (pbyte s a bad).1)
theorem over_lt {s : ByteArray} {a : Nat} {bad : Bool} (h : over s a bad = false) : a < s.size := by
 simp [over] at h; omega
theorem pbyte_lt (s : ByteArray) (a : Nat) (bad : Bool) : (pbyte s a bad).1 < 256 := by
 unfold pbyte; split
 · show 0 < 256; decide
 · exact byteAt_lt s a
theorem pmember_lt (s : ByteArray) (a : Nat) (bad : Bool) : (pmember s a bad).1 < 256 := by
 unfold pmember; split
 · exact pbyte_lt _ _ _
 · exact pbyte_lt _ _ _
section
variable (σ : St) (p : Nat) (s : ByteArray) (a : Nat) (bad : Bool)
theorem over_ans (h : σ[p]? = some (pob s a bad)) : Ans Tryz.prog 191 [.ptr p 0] σ (Bo (over s a bad)) σ := by
 refine Ans.of_run t191 ?_
 cases bad <;> simp -implicitDefEqProofs only [c191, r191, h, go_sem]
 · refine Fini.ret ?_
   simp -implicitDefEqProofs only [go_sem, over, Bool.false_or, Int.ofNat_le]
   rfl
 · exact Fini.ret rfl
theorem sees_ans (c : Nat) (h : σ[p]? = some (pob s a bad)) : Ans Tryz.prog 192 [.ptr p 0, B8 c] σ (Bo (sees s a bad c)) σ := by
 refine Ans.of_run t192 ?_
 simp -implicitDefEqProofs only [c192, r192, h, go_sem]
 refine CD.intro (over_ans σ p s a bad h) ?_
 cases hb : over s a bad
 · have hlt := over_lt hb
   have h1 : (a : Int) < s.size := by omega
   simp -implicitDefEqProofs only [go_sem, h, h1, byteAt_def]
   refine Fini.ret ?_
   simp -implicitDefEqProofs only [go_sem, sees, hb, beq_cast]
   rfl
 · simp -implicitDefEqProofs only [go_sem, h]
   refine Fini.ret ?_
   simp -implicitDefEqProofs only [go_sem, sees, hb, Bool.false_and]
   rfl
theorem next_ans (c : Nat) (hs : bad = true ∨ s.size ≤ 40) (h : σ[p]? = some (pob s a bad)) : Ans Tryz.prog 182 [.ptr p 0, B8 c] σ (Bo (sees s a bad c)) (σ.set p (pob s (nextA s a bad c) bad)) := by
 refine Ans.of_run t182 ?_
 simp -implicitDefEqProofs only [c182, r182, h, go_sem]
 refine CO.intro (sees_ans σ p s a bad c h) ?_
 unfold nextA
 cases hb : sees s a bad c
 · simp -implicitDefEqProofs only [go_sem]
   rw [set_same h]
   exact Fini.ret rfl
 · have hlt : a < s.size := by
    simp [sees] at hb; exact over_lt hb.1
   have hsz : s.size ≤ 40 := by
    rcases hs with rfl | hs
    · simp [sees, over] at hb
    · exact hs
   simp -implicitDefEqProofs only [go_sem, h, wrap_nat (show a ≤ 4294967296 by omega)]
   exact Fini.ret rfl
theorem byte_ans (hs : bad = true ∨ s.size ≤ 40) (h : σ[p]? = some (pob s a bad)) : Ans Tryz.prog 208 [.ptr p 0] σ (B8 (pbyte s a bad).1) (σ.set p (pob s (pbyte s a bad).2.1 (pbyte s a bad).2.2)) := by
 refine Ans.of_run t208 ?_
 simp -implicitDefEqProofs only [c208, r208, h, go_sem]
 refine CO.intro (over_ans σ p s a bad h) ?_
 unfold pbyte
 cases hb : over s a bad
 · have hlt := over_lt hb
   have hsz : s.size ≤ 40 := by
    rcases hs with rfl | hs
    · simp [over] at hb
    · exact hs
   have h1 : (a : Int) < s.size := by omega
   have h2 : IntKind.i64.wrap (((a + 1 : Nat) : Int) - 1) = (a : Int) := by
    simp only [IntKind.wrap, IntKind.bits, IntKind.signed]; simp; omega
   simp -implicitDefEqProofs only [go_sem, h, get_set_eq h, wrap_nat (show a ≤ 4294967296 by omega), h1, h2, byteAt_def]
   exact Fini.ret rfl
 · simp -implicitDefEqProofs only [go_sem, h, get_set_eq h]
   exact Fini.ret rfl
theorem idx60 (t : ByteArray) (c : Nat) : Ans Tryz.prog 225 [Sx t, B8 c] σ (I (firstIdx t c.toUInt8)) σ := idx_ok _ _ _ _ rfl
theorem byteidx_ans (t : ByteArray) (c : Nat) : Ans Tryz.prog 213 [Sx t, B8 c] σ (I (firstIdx t c.toUInt8)) σ := by
 have h58 : Ans Tryz.prog 222 [Sx t, B8 c] σ (I (firstIdx t c.toUInt8)) σ := by
  refine Ans.of_run t222 ?_
  simp -implicitDefEqProofs only [c222, r222, go_sem]
  refine CO.intro (idx60 σ t c) ?_
  simp -implicitDefEqProofs only [go_sem]
  exact Fini.ret rfl
 refine Ans.of_run t213 ?_
 simp -implicitDefEqProofs only [c213, r213, go_sem]
 refine CO.intro h58 ?_
 simp -implicitDefEqProofs only [go_sem]
 exact Fini.ret rfl
theorem signs_idx : ∀ c : Nat, c < 256 → decide (firstIdx (ByteArray.mk #[124, 42, 43, 63, 40, 41, 91, 93, 46, 92, 94, 45]) c.toUInt8 < 0) = !signs.contains c := by decide +kernel
theorem within_idx : ∀ c : Nat, c < 256 → decide (0 ≤ firstIdx (ByteArray.mk #[92, 93, 91, 94, 45]) c.toUInt8) = within.contains c := by decide +kernel
def stray : List Nat := [42, 43, 63, 93]
theorem stray_idx : ∀ c : Nat, c < 256 → decide (0 ≤ firstIdx (ByteArray.mk #[42, 43, 63, 93]) c.toUInt8) = stray.contains c := by decide +kernel
theorem sign_ans (hs : bad = true ∨ s.size ≤ 40) (h : σ[p]? = some (pob s a bad)) : Ans Tryz.prog 212 [.ptr p 0] σ (B8 (psign s a bad).1) (σ.set p (pob s (psign s a bad).2.1 (psign s a bad).2.2)) := by
 have hc := signs_idx _ (pbyte_lt s a bad)
 unfold psign
 refine Ans.of_run t212 ?_
 simp -implicitDefEqProofs only [c212, r212, h, go_sem]
 refine CO.intro (byte_ans σ p s a bad hs h) ?_
 generalize pbyte s a bad = q at hc ⊢
 obtain ⟨c, a', b'⟩ := q
 have hg : (σ.set p (pob s a' b'))[p]? = some (pob s a' b') := get_set_eq h _
 cases b' with
 | true =>
   simp -implicitDefEqProofs only [go_sem, hg, List.set_set]
   exact Fini.ret rfl
 | false =>
   simp -implicitDefEqProofs only [go_sem, hg]
   refine CO.intro (byteidx_ans _ _ c) ?_
   simp -implicitDefEqProofs only [go_sem, hg, List.set_set]
   refine Fini.ret2 (n := 0) rfl rfl ?_
   rw [hc]; rfl
theorem member_ans (hs : bad = true ∨ s.size ≤ 40) (h : σ[p]? = some (pob s a bad)) : Ans Tryz.prog 221 [.ptr p 0] σ (B8 (pmember s a bad).1) (σ.set p (pob s (pmember s a bad).2.1 (pmember s a bad).2.2)) := by
 have hc := within_idx _ (pbyte_lt s a bad)
 have hs' : (pbyte s a bad).2.2 = true ∨ s.size ≤ 40 := by
  unfold pbyte; split
  · exact .inl rfl
  · exact hs
 unfold pmember
 refine Ans.of_run t221 ?_
 simp -implicitDefEqProofs only [c221, r221, h, go_sem]
 refine CO.intro (byte_ans σ p s a bad hs h) ?_
 generalize pbyte s a bad = q at hc hs' ⊢
 obtain ⟨c, a', b'⟩ := q
 have hg : (σ.set p (pob s a' b'))[p]? = some (pob s a' b') := get_set_eq h _
 have hc92 : ((c : Int) == 92) = (c == 92) := beq_cast c 92
 cases h92 : c == 92 with
 | true =>
   simp -implicitDefEqProofs only [go_sem, hc92, h92]
   refine CO.intro (sign_ans _ p s a' b' hs' hg) ?_
   simp -implicitDefEqProofs only [go_sem, List.set_set]
   exact Fini.ret rfl
 | false =>
   simp -implicitDefEqProofs only [go_sem, hc92, h92]
   cases b' with
   | true =>
     simp -implicitDefEqProofs only [go_sem, hg, List.set_set]
     exact Fini.ret rfl
   | false =>
     simp -implicitDefEqProofs only [go_sem, hg]
     refine CO.intro (byteidx_ans _ _ c) ?_
     simp -implicitDefEqProofs only [go_sem, hg, List.set_set]
     refine Fini.ret2 (n := 0) rfl rfl ?_
     rw [hc]; rfl
end
end Go.Proofs.YtmkmhhjkdaklbaaGreat
namespace Go.Proofs.YtmkmhhjkdaklbaaGreat
open Go Go.Ab
set_option maxRecDepth 100000
def orU (v w : Int) : Int := IntKind.u64.wrap (BitVec.ofInt IntKind.u64.bits v ||| BitVec.ofInt IntKind.u64.bits w).toNat
def bitU (r : Nat) : Int := IntKind.u64.wrap (1 * 2 ^ (min r IntKind.u64.bits))
def notU (v : Int) : Int := IntKind.u64.wrap (BitVec.ofInt IntKind.u64.bits (if IntKind.u64.signed then -1 else IntKind.u64.max) ^^^ BitVec.ofInt IntKind.u64.bits v).toNat
def setAdd (S : List Int) (c : Nat) : List Int := S.set (c / 64) (orU (S.getD (c / 64) 0) (bitU (c % 64)))
def addR (S : List Int) (f : Nat) : Nat → List Int
 | 0 => S
 | n + 1 => setAdd (addR S f n) (f + n)
theorem setAdd_len (S : List Int) (c : Nat) : (setAdd S c).length = S.length := by simp [setAdd]
theorem addR_len (S : List Int) (f n : Nat) : (addR S f n).length = S.length := by
 induction n with
 | zero => rfl
 | succ n ih => rw [addR, setAdd_len, ih]
theorem gA {σ : St} {p : Nat} (hp : p < σ.length) (o : Ob) (ex : St) : (σ.set p o ++ ex)[p]? = some o := by
 rw [List.getElem?_append_left (by simpa using hp)]; simp [hp]
theorem sA {σ : St} {p : Nat} (hp : p < σ.length) (o o' : Ob) (ex : St) : (σ.set p o ++ ex).set p o' = σ.set p o' ++ ex := by
 rw [List.set_append_left _ _ (by simpa using hp), List.set_set]
theorem gL0 (σ : St) (p : Nat) (o x : Ob) (ex : St) : (σ.set p o ++ x :: ex)[σ.length]? = some x := by
 rw [List.getElem?_append_right (by simp)]; simp
theorem sL0 (σ : St) (p : Nat) (o x y : Ob) (ex : St) : (σ.set p o ++ x :: ex).set σ.length y = σ.set p o ++ y :: ex := by
 rw [List.set_append_right _ _ (by simp)]; simp
theorem gL1 (σ : St) (p : Nat) (o x y : Ob) (ex : St) : (σ.set p o ++ x :: y :: ex)[σ.length + 1]? = some y := by
 rw [List.getElem?_append_right (by simp)]; simp
theorem sL1 (σ : St) (p : Nat) (o x y z : Ob) (ex : St) : (σ.set p o ++ x :: y :: ex).set (σ.length + 1) z = σ.set p o ++ x :: z :: ex := by
 rw [List.set_append_right _ _ (by simp)]; simp
theorem Fini.normal2 {n m : Nat} {rvs : List RV} {r r' : AV} {σ σ' : St} {env : Env} (h : resA env σ rvs = some r') (e : r' = r) (e' : σ = σ') : Fini m rvs r σ' .normal env σ := by
 subst e; subst e'; exact Fini.normal h
section
variable (σ : St)
theorem add_ans (l off : Nat) (cs : List AV) (c : Nat) (v : Int) (h : σ[l]? = some (.box cs)) (hv : cs[off + c / 64]? = some (U v)) (hc : c < 256) :
  Ans Tryz.prog 211 [.ptr l off, B8 c] σ (.tup []) (σ.set l (.box (cs.set (off + c / 64) (U (orU v (bitU (c % 64))))))) := by
 have hk : off + c / 64 < cs.length := (List.getElem?_eq_some_iff.1 hv).1
 have e1 : IntKind.u8.wrap ((c : Int).tdiv 64) = ((c / 64 : Nat) : Int) := by
  rw [show (c : Int).tdiv 64 = ((c / 64 : Nat) : Int) from rfl]
  simp only [IntKind.wrap, IntKind.bits, IntKind.signed]; simp; omega
 have e2 : (c : Int).tmod 64 = ((c % 64 : Nat) : Int) := rfl
 have e3 : ((64 : Int) = 0) = False := by simp
 have e4 : (((c / 64 : Nat) : Int) < (4 : Nat)) = True := by simp; omega
 have e5 : cs.drop (off + c / 64) = U v :: cs.drop (off + c / 64 + 1) := by
  rw [List.drop_eq_getElem_cons hk]
  have := (List.getElem?_eq_some_iff.1 hv).2
  rw [this]
 have e6 : (off + c / 64 + 1 ≤ cs.length) = True := by simp; omega
 have e7 : (1 ≤ (cs.drop (off + c / 64 + 1)).length + 1) = True := by simp
 refine Ans.of_run t211 ?_
 simp -implicitDefEqProofs only [c211, r211, go_sem, e1, e2, e3, e4, Nat.mul_one, h, e5, e6, e7, List.drop_succ_cons]
 have hset : cs.set (off + c / 64) (U (orU v (bitU (c % 64)))) = cs.take (off + c / 64) ++ [U (orU v (bitU (c % 64)))] ++ cs.drop (off + c / 64 + 1) := by
  rw [List.set_eq_take_append_cons_drop, if_pos hk]; simp
 rw [hset]
 exact Fini.normal2 (n := 0) rfl rfl rfl
def turnS (S : List Int) : List Int := S.map notU
theorem turned_ans (a b c d : Int) : Ans Tryz.prog 210 [.agg [U a, U b, U c, U d]] σ (.agg [U (notU a), U (notU b), U (notU c), U (notU d)]) σ := by
 have k0 : ∀ (x y : Ob), (σ ++ [x, y])[σ.length]? = some x := fun x y => by rw [List.getElem?_append_right (by simp)]; simp
 have k1 : ∀ (x y : Ob), (σ ++ [x, y])[σ.length + 1]? = some y := fun x y => by rw [List.getElem?_append_right (by simp)]; simp
 have s0 : ∀ (x y z : Ob), (σ ++ [x, y]).set σ.length z = σ ++ [z, y] := fun x y z => by rw [List.set_append_right _ _ (by simp)]; simp
 have s1 : ∀ (x y z : Ob), (σ ++ [x, y]).set (σ.length + 1) z = σ ++ [x, z] := fun x y z => by rw [List.set_append_right _ _ (by simp)]; simp
 have q1 : IntKind.i64.wrap (0 + 1) = 1 := by decide
 have q2 : IntKind.i64.wrap (1 + 1) = 2 := by decide
 have q3 : IntKind.i64.wrap (2 + 1) = 3 := by decide
 have q4 : IntKind.i64.wrap (3 + 1) = 4 := by decide
 have q5 : IntKind.i64.wrap 1 = 1 := by decide
 have q6 : IntKind.i64.wrap 2 = 2 := by decide
 have q7 : IntKind.i64.wrap 3 = 3 := by decide
 have q8 : IntKind.i64.wrap 4 = 4 := by decide
 have n1 : Int.toNat 1 = 1 := rfl
 have n2 : Int.toNat 2 = 2 := rfl
 have n3 : Int.toNat 3 = 3 := rfl
 have c4 : ((4 : Nat) : Int) = 4 := rfl
 refine Ans.of_run' t210 (fun hbel _ => ?_)
 simp -implicitDefEqProofs only [c210, r210, go_sem, List.append_assoc, List.length_append]
 refine L.count 4 (fun i => mkE 15 [(1, .ptr σ.length 0), (2, .ptr (σ.length + 1) 0), (4, I i)])
  (fun i => σ ++ [.box (match i with | 0 => [U a, U b, U c, U d] | 1 => [U (notU a), U b, U c, U d] | 2 => [U (notU a), U (notU b), U c, U d] | 3 => [U (notU a), U (notU b), U (notU c), U d] | _ => [U (notU a), U (notU b), U (notU c), U (notU d)]), .box [U 0, U 0, U 0, U 0]]) ?_ ?_ rfl rfl
 · intro i hi Q hQ
   match i, hi, hQ with
   | 0, _, hQ =>
     simp -implicitDefEqProofs only [mkE, go_sem, k0, k1, s0, s1, q1, q2, q3, q4, q5, q6, q7, q8, n1, n2, n3, c4, Int.toNat_zero, Int.cast_ofNat_Int, Int.natCast_one, Int.natCast_zero]
     exact hQ
   | 1, _, hQ =>
     simp -implicitDefEqProofs only [mkE, go_sem, k0, k1, s0, s1, q1, q2, q3, q4, q5, q6, q7, q8, n1, n2, n3, c4, Int.toNat_zero, Int.cast_ofNat_Int, Int.natCast_one, Int.natCast_zero]
     exact hQ
   | 2, _, hQ =>
     simp -implicitDefEqProofs only [mkE, go_sem, k0, k1, s0, s1, q1, q2, q3, q4, q5, q6, q7, q8, n1, n2, n3, c4, Int.toNat_zero, Int.cast_ofNat_Int, Int.natCast_one, Int.natCast_zero]
     exact hQ
   | 3, _, hQ =>
     simp -implicitDefEqProofs only [mkE, go_sem, k0, k1, s0, s1, q1, q2, q3, q4, q5, q6, q7, q8, n1, n2, n3, c4, Int.toNat_zero, Int.cast_ofNat_Int, Int.natCast_one, Int.natCast_zero]
     exact hQ
 · intro Q
   simp -implicitDefEqProofs only [mkE, go_sem, k0, k1, s0, s1, c4, Int.cast_ofNat_Int]
   refine Fini.trim2 (σ' := σ) (ex := [.box [U (notU a), U (notU b), U (notU c), U (notU d)], .box [U (notU a), U (notU b), U (notU c), U (notU d)]]) ?_ rfl (Nat.le_refl _) ?_ hbel
   · simp -implicitDefEqProofs only [go_sem, resA, allSome, rvA, oneOf, k1]
   · refine .agg _ fun i hi => ?_
     have : ∀ y ∈ [U (notU a), U (notU b), U (notU c), U (notU d)], Bel σ.length y := by
      intro y hy
      simp only [List.mem_cons, List.not_mem_nil, or_false] at hy
      rcases hy with rfl | rfl | rfl | rfl <;> exact .pl _
     exact this _ (List.getElem_mem hi)
end
end Go.Proofs.YtmkmhhjkdaklbaaGreat
namespace Go.Proofs.YtmkmhhjkdaklbaaGreat
open Go Go.Ab
set_option maxRecDepth 100000
def fuel : Nat := 2 ^ 64 + 1
def tstU (v : Int) (r : Nat) : Bool := IntKind.u64.wrap (BitVec.ofInt IntKind.u64.bits (v.fdiv (2 ^ (min ((r : Int)).toNat IntKind.u64.bits))) &&& BitVec.ofInt IntKind.u64.bits 1).toNat == 1
def setU (s : Stp) (k : Nat) : Int := [s.a, s.b, s.c, s.d].getD k 0
def takesS (s : Stp) (c : Nat) : Bool := s.op == 1 && tstU (setU s (c / 64)) (c % 64)
def stpAt (ys : List Stp) (i : Nat) : Stp := ys.getD i ⟨0, 0, 0, 0, 0, 0, 0⟩
end Go.Proofs.YtmkmhhjkdaklbaaGreat
namespace Go.Proofs.YtmkmhhjkdaklbaaGreat
open Go Go.Ab
set_option maxRecDepth 100000
def cGo (s : ByteArray) (a : Nat) (b first : Bool) : Bool := first || (!over s a b && !sees s a b 93)
def cTo (s : ByteArray) (a : Nat) (b : Bool) : Nat × Nat × Bool :=
 if sees s (pmember s a b).2.1 (pmember s a b).2.2 45 then pmember s ((pmember s a b).2.1 + 1) (pmember s a b).2.2 else pmember s a b
def cBad (s : ByteArray) (a : Nat) (b : Bool) : Bool := (cTo s a b).2.2 || decide ((cTo s a b).1 < (pmember s a b).1)
def classL (s : ByteArray) : Nat → List Int → Nat → Bool → Bool → List Int × Nat × Bool
 | 0, S, a, b, _ => (S, a, b)
 | n + 1, S, a, b, first => if cGo s a b first then
     classL s n (addR S (pmember s a b).1 ((cTo s a b).1 + 1 - (pmember s a b).1)) (cTo s a b).2.1 (cBad s a b) false
   else (S, a, b)
def cMeas (s : ByteArray) (a : Nat) (b first : Bool) : Nat := (s.size - a) + (if b then 0 else 1) + (if first then 1 else 0)
theorem pbyte_ge (s : ByteArray) (a : Nat) (b : Bool) : a ≤ (pbyte s a b).2.1 := by
 unfold pbyte; split
 · exact Nat.le_refl _
 · exact Nat.le_succ _
theorem pbyte_bad (s : ByteArray) (a : Nat) : (pbyte s a true) = (0, a, true) := by simp [pbyte, over]
theorem pbyte_meas (s : ByteArray) (a : Nat) (b : Bool) (h : b = false) : (s.size - (pbyte s a b).2.1) + (if (pbyte s a b).2.2 then 0 else 1) + 1 ≤ (s.size - a) + 1 := by
 subst h
 unfold pbyte
 split
 · simp
 · rename_i h
   have : a < s.size := over_lt (by simpa using h)
   simp; omega
theorem psign_ge (s : ByteArray) (a : Nat) (b : Bool) : a ≤ (psign s a b).2.1 := pbyte_ge s a b
theorem pmember_ge (s : ByteArray) (a : Nat) (b : Bool) : a ≤ (pmember s a b).2.1 := by
 unfold pmember; split
 · exact Nat.le_trans (pbyte_ge s a b) (psign_ge _ _ _)
 · exact pbyte_ge s a b
theorem psign_mono (s : ByteArray) (a : Nat) : (psign s a true).2.2 = true := by simp [psign, pbyte_bad]
theorem pmember_true (s : ByteArray) (a : Nat) : pmember s a true = (0, a, true) := by simp [pmember, pbyte_bad]
theorem pmember_meas (s : ByteArray) (a : Nat) (b : Bool) (h : b = false) : (s.size - (pmember s a b).2.1) + (if (pmember s a b).2.2 then 0 else 1) + 1 ≤ (s.size - a) + 1 := by
 have h1 := pbyte_meas s a b h
 unfold pmember
 split
 · have h2 := psign_ge s (pbyte s a b).2.1 (pbyte s a b).2.2
   cases hb : (pbyte s a b).2.2 with
   | true =>
     rw [hb] at h1 h2
     rw [psign_mono]
     simp at h1 ⊢
     omega
   | false =>
     rw [hb] at h1 h2
     simp at h1
     split <;> omega
 · cases hb : (pbyte s a b).2.2 with
   | true => rw [hb] at h1; simp at h1 ⊢; omega
   | false =>
     rw [hb] at h1
     simp only [Bool.false_or, Bool.false_eq_true, if_false] at h1 ⊢
     split <;> omega
theorem cTo_ge (s : ByteArray) (a : Nat) (b : Bool) : (pmember s a b).2.1 ≤ (cTo s a b).2.1 := by
 unfold cTo; split
 · exact Nat.le_trans (Nat.le_succ _) (pmember_ge _ _ _)
 · exact Nat.le_refl _
theorem cTo_mono (s : ByteArray) (a : Nat) (b : Bool) (h : (pmember s a b).2.2 = true) : (cTo s a b).2.2 = true := by
 unfold cTo; split
 · rw [h, pmember_true]
 · exact h
theorem cTo_true (s : ByteArray) (a : Nat) : cTo s a true = (0, a, true) := by
 unfold cTo; rw [pmember_true]; simp [sees, over]
theorem cBad_true (s : ByteArray) (a : Nat) : cBad s a true = true := by simp [cBad, cTo_true]
theorem cTo_lt (s : ByteArray) (a : Nat) (b : Bool) : (cTo s a b).1 < 256 := by
 unfold cTo; split <;> exact pmember_lt _ _ _
theorem cMeas_lt (s : ByteArray) (a : Nat) (b first : Bool) (h : cGo s a b first = true) : cMeas s (cTo s a b).2.1 (cBad s a b) false < cMeas s a b first := by
 unfold cMeas
 cases b with
 | true =>
   rw [cBad_true, cTo_true]
   cases first with
   | true => simp
   | false => simp [cGo, over] at h
 | false =>
   have h1 := pmember_meas s a false rfl
   have h2 := cTo_ge s a false
   have h3 : (if cBad s a false then 0 else 1) ≤ (if (pmember s a false).2.2 then 0 else 1) := by
    cases hm : (pmember s a false).2.2 with
    | true => simp [cBad, cTo_mono s a false hm]
    | false => split <;> simp
   have h0 : (if (false : Bool) = true then 0 else 1) = 1 := rfl
   have h0' : (if (false : Bool) = true then 1 else 0) = 0 := rfl
   cases first with
   | true =>
     have h5 : (if (true : Bool) = true then 1 else 0) = 1 := rfl
     rw [h0, h0', h5]
     omega
   | false =>
     have hov : over s a false = false := by simp [cGo] at h; exact h.1
     have hlt := over_lt hov
     have hp : a + 1 ≤ (pmember s a false).2.1 := by
      have : (pbyte s a false).2.1 = a + 1 := by simp [pbyte, hov]
      unfold pmember; split
      · exact Nat.le_trans (by omega) (psign_ge _ _ _)
      · show a + 1 ≤ (pbyte s a false).2.1
        omega
     have h4 : (if cBad s a false then 0 else 1) ≤ 1 := by split <;> omega
     rw [h0, h0']
     omega
def pclass (s : ByteArray) (a : Nat) (b : Bool) : List Int × Nat × Bool :=
 let l := classL s (s.size + 3) [0, 0, 0, 0] (nextA s a b 94) b true
 ((if sees s a b 94 then turnS l.1 else l.1), nextA s l.2.1 l.2.2 93, !sees s l.2.1 l.2.2 93 || l.2.2)
theorem classL_len (s : ByteArray) : ∀ (n : Nat) (S : List Int) (a : Nat) (b first : Bool), (classL s n S a b first).1.length = S.length
 | 0, S, a, b, first => rfl
 | n + 1, S, a, b, first => by
   rw [classL]; split
   · rw [classL_len s n, addR_len]
   · rfl
theorem pmember_hs {s : ByteArray} {a : Nat} {b : Bool} (h : b = true ∨ s.size ≤ 40) : (pmember s a b).2.2 = true ∨ s.size ≤ 40 := by
 rcases h with rfl | h
 · exact .inl (by rw [pmember_true])
 · exact .inr h
theorem cBad_hs {s : ByteArray} {a : Nat} {b : Bool} (h : b = true ∨ s.size ≤ 40) : cBad s a b = true ∨ s.size ≤ 40 := by
 rcases h with rfl | h
 · exact .inl (cBad_true s a)
 · exact .inr h
theorem classL_hs (s : ByteArray) : ∀ (n : Nat) (S : List Int) (a : Nat) (b first : Bool), (b = true ∨ s.size ≤ 40) → ((classL s n S a b first).2.2 = true ∨ s.size ≤ 40)
 | 0, S, a, b, first, h => h
 | n + 1, S, a, b, first, h => by
   rw [classL]; split
   · exact classL_hs s n _ _ _ _ (cBad_hs h)
   · exact h
end Go.Proofs.YtmkmhhjkdaklbaaGreat
