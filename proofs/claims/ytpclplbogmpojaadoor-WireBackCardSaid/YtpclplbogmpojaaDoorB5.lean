/-
  Part 5 of a proof: an abstract machine for the program, and what pieces of the program compute (AmSync, AmDefer, Types, WRdr, WRdr2, WRdr3, WRdr4, Loops, Bridge, Lend, Push, WRef). No condition of its own.
-/
import Derived.Test.YtpclplbogmpojaaDoorB4
import Derived.Laws.LoneSync
import Derived.Defers
import Derived.KernelRfl
import Derived.Test.YtpclplbogmpojaaDoorProg
import Derived.Laws.BitsLemmas
import Derived.Below
set_option linter.unusedSimpArgs false
set_option linter.unusedVariables false
section
namespace Go.Am
open Go

variable {O : Type} {unf : O → List (AO O)} {P : Program}

theorem atom_get {κ : Ctx} {M : Mem O} {w : World} {S : Nat → Prop} (hR : Rep unf κ M w S) {id off : Nat} {ek : Option Nat} {cs : List AV} {k : IntKind} {x : Int} (hM : M[id]? = some (.cells ek cs)) (hc : cs[off]? = some (.int k x)) {cv : Value} (hv : VRel κ (.ptr id off) cv) :
    ∃ L A t fz, cv = .pointer (some ⟨L.blk, L.base + off, none⟩) ∧ κ.at_ id = some L ∧ w.heap[L.blk]? = some (.cells A t fz) ∧ Plain A fz ∧ L.base + off < A.size ∧ w.cell? ⟨L.blk, L.base + off, none⟩ = some (.int k x) ∧ w.frozen? ⟨L.blk, L.base + off, none⟩ = false := by
  obtain ⟨L, hL, rfl⟩ := hv.ptr_inv
  obtain ⟨L', A, t, fz, hL', hek, hSL, hA, hp, hcs, hroom⟩ := hR.cells hM
  rw [hL] at hL'; cases hL'
  obtain ⟨hlt, hce⟩ := List.getElem?_eq_some_iff.1 hc
  obtain ⟨v, h1, h2⟩ := hcs off hlt
  rw [hce] at h2
  have := h2.int_inv
  subst this
  have hsz := (Array.getElem?_eq_some_iff.1 h1).1
  exact ⟨L, A, t, fz, rfl, hL, hA, hp, hsz, by rw [cell_of hA]; exact h1, frozen_of hA hp hsz⟩

theorem atom_set {κ : Ctx} {M : Mem O} {w : World} {S : Nat → Prop} (hR : Rep unf κ M w S) {id off : Nat} {ek : Option Nat} {cs : List AV} (hM : M[id]? = some (.cells ek cs)) {L : Loc} (hL : κ.at_ id = some L) {A : Array Value} {t : TypeId} {fz : Nat × Nat}
    (hA : w.heap[L.blk]? = some (.cells A t fz)) (hp : Plain A fz) (hsz : L.base + off < A.size) (k : IntKind) (y : Int) :
    Rep unf κ (M.set id (.cells ek (cs.set off (.int k y)))) (w.setCell ⟨L.blk, L.base + off, none⟩ (.int k y)) S ∧ Post M.length κ S w κ S (w.setCell ⟨L.blk, L.base + off, none⟩ (.int k y)) := by
  obtain ⟨L', A', t', fz', hL', hek, hSL, hA', _, hcs, hroom⟩ := hR.cells hM
  rw [hL] at hL'; cases hL'
  rw [hA] at hA'; cases hA'
  rw [setCell_of hA]
  refine hR.set hM hL hA ⟨fun v hv => ?_, by simpa using hp.2⟩ (by simp) _ fun i hi => ?_
  · rcases Array.mem_or_eq_of_mem_setIfInBounds hv with h | h
    · exact hp.1 v h
    · subst h; rfl
  · simp at hi
    obtain ⟨v, h1, h2⟩ := hcs i hi
    by_cases hio : off = i
    · subst hio
      exact ⟨.int k y, by simp [hsz], by simpa using .int k y⟩
    · refine ⟨v, ?_, by rw [List.getElem_set_ne hio]; exact h2⟩
      rw [Array.getElem?_setIfInBounds_ne (by omega)]; exact h1

theorem one_arg {κ : Ctx} {a : AV} {cargs : Array Value} (h : VRelL κ [a] cargs) : ∃ c, cargs = #[c] ∧ VRel κ a c := by
  obtain ⟨h1, h2⟩ := h
  have hs : cargs.size = 1 := by simpa using h1.symm
  refine ⟨cargs[0], ?_, h2 0 (by simp) (by omega)⟩
  apply Array.ext
  · simp [hs]
  · intro i h3 h4
    have : i = 0 := by omega
    subst this; rfl

theorem args_two {κ : Ctx} {a b : AV} {cargs : Array Value} (h : VRelL κ [a, b] cargs) : ∃ c d, cargs = #[c, d] ∧ VRel κ a c ∧ VRel κ b d := by
  obtain ⟨h1, h2⟩ := h
  have hs : cargs.size = 2 := by simpa using h1.symm
  refine ⟨cargs[0], cargs[1], ?_, h2 0 (by simp) (by omega), h2 1 (by simp) (by omega)⟩
  apply Array.ext
  · simp [hs]
  · intro i h3 h4
    rcases (show i = 0 ∨ i = 1 by omega) with rfl | rfl <;> rfl

theorem args_three {κ : Ctx} {a b c : AV} {cargs : Array Value} (h : VRelL κ [a, b, c] cargs) : ∃ x y z, cargs = #[x, y, z] ∧ VRel κ a x ∧ VRel κ b y ∧ VRel κ c z := by
  obtain ⟨h1, h2⟩ := h
  have hs : cargs.size = 3 := by simpa using h1.symm
  refine ⟨cargs[0], cargs[1], cargs[2], ?_, h2 0 (by simp) (by omega), h2 1 (by simp) (by omega), h2 2 (by simp) (by omega)⟩
  apply Array.ext
  · simp [hs]
  · intro i h3 h4
    rcases (show i = 0 ∨ i = 1 ∨ i = 2 by omega) with rfl | rfl | rfl <;> rfl

section
variable {f : FuncId} {fn : Func}

theorem CallT.mark0 (hf : P.funcs[f]? = some fn) (hname : (fn.name == "runtime.NumGoroutine") = false) (hb : fn.body.isNone = true) (hn : Extern.findNext fn = none) (m : Mark) (he : Extern.find fn = some (fun _ => do mark m; pure Extern.Race.none_)) (M : Mem O) : CallT unf P f [] M (fun v M' ch => v = .tup [] ∧ M' = M ∧ ch = []) := by
  intro κ S w cargs hR hargs
  obtain rfl : cargs = #[] := by
    have := hargs.1
    simp at this
    exact Array.eq_empty_of_size_eq_zero this.symm
  exact .inl ⟨_, w, run_call_mark0 hf hname hb hn m he w, κ, S, .tup [], M, [], ⟨rfl, rfl, rfl⟩, hR, .tup rfl (fun i h => by simp at h), .refl _ _ _ _, .refl _ _⟩

theorem CallT.marked (hf : P.funcs[f]? = some fn) (hname : (fn.name == "runtime.NumGoroutine") = false) (hb : fn.body.isNone = true) (hn : Extern.findNext fn = none) (m : Addr → Mark) (he : Extern.find fn = some (Extern.Race.marked m)) (M : Mem O) (id off : Nat) : CallT unf P f [.ptr id off] M (fun v M' ch => v = .tup [] ∧ M' = M ∧ ch = []) := by
  intro κ S w cargs hR hargs
  obtain ⟨c, rfl, hc⟩ := one_arg hargs
  obtain ⟨L, hL, rfl⟩ := hc.ptr_inv
  exact .inl ⟨_, w, run_call_marked hf hname hb hn m he _ w, κ, S, .tup [], M, [], ⟨rfl, rfl, rfl⟩, hR, .tup rfl (fun i h => by simp at h), .refl _ _ _ _, .refl _ _⟩

theorem CallT.aload (hf : P.funcs[f]? = some fn) (hname : (fn.name == "runtime.NumGoroutine") = false) (hb : fn.body.isNone = true) (hn : Extern.findNext fn = none) (k : IntKind) (he : Extern.find fn = some (Extern.Atomic.loadT (.int k))) {M : Mem O} {id off : Nat} {ek : Option Nat} {cs : List AV} {x : Int} (hM : M[id]? = some (.cells ek cs)) (hc : cs[off]? = some (.int k x)) :
    CallT unf P f [.ptr id off] M (fun v M' ch => v = .int k x ∧ M' = M ∧ ch = []) := by
  intro κ S w cargs hR hargs
  obtain ⟨c, rfl, hcv⟩ := one_arg hargs
  obtain ⟨L, A, t, fz, rfl, hL, hA, hp, hsz, hcell, hfz⟩ := atom_get hR hM hc hcv
  exact .inl ⟨_, w, run_call_load hf hname hb hn k he hcell, κ, S, .int k x, M, [], ⟨rfl, rfl, rfl⟩, hR, .int k x, .refl _ _ _ _, .refl _ _⟩

theorem CallT.astore (hf : P.funcs[f]? = some fn) (hname : (fn.name == "runtime.NumGoroutine") = false) (hb : fn.body.isNone = true) (hn : Extern.findNext fn = none) (he : Extern.find fn = some Extern.Atomic.storeT) {M : Mem O} {id off : Nat} {ek : Option Nat} {cs : List AV} {k : IntKind} {x y : Int} (hM : M[id]? = some (.cells ek cs)) (hc : cs[off]? = some (.int k x)) :
    CallT unf P f [.ptr id off, .int k y] M (fun v M' ch => v = .tup [] ∧ M' = M.set id (.cells ek (cs.set off (.int k y))) ∧ ch = [id]) := by
  intro κ S w cargs hR hargs
  obtain ⟨c, d, rfl, hcv, hdv⟩ := args_two hargs
  obtain rfl := hdv.int_inv
  obtain ⟨L, A, t, fz, rfl, hL, hA, hp, hsz, hcell, hfz⟩ := atom_get hR hM hc hcv
  obtain ⟨h1, h2⟩ := atom_set hR hM hL hA hp hsz k y
  exact .inl ⟨_, _, run_call_store hf hname hb hn he hcell hfz, κ, S, .tup [], _, [id], ⟨rfl, rfl, rfl⟩, h1, .tup rfl (fun i h => by simp at h), h2, .set _ _ _⟩

theorem CallT.acas (hf : P.funcs[f]? = some fn) (hname : (fn.name == "runtime.NumGoroutine") = false) (hb : fn.body.isNone = true) (hn : Extern.findNext fn = none) (k : IntKind) (he : Extern.find fn = some (Extern.Atomic.casT (.int k))) {M : Mem O} {id off : Nat} {ek : Option Nat} {cs : List AV} {x y : Int} (hM : M[id]? = some (.cells ek cs)) (hc : cs[off]? = some (.int k x)) :
    CallT unf P f [.ptr id off, .int k x, .int k y] M (fun v M' ch => v = .bool true ∧ M' = M.set id (.cells ek (cs.set off (.int k y))) ∧ ch = [id]) := by
  intro κ S w cargs hR hargs
  obtain ⟨c, d, e, rfl, hcv, hdv, hev⟩ := args_three hargs
  obtain rfl := hdv.int_inv
  obtain rfl := hev.int_inv
  obtain ⟨L, A, t, fz, rfl, hL, hA, hp, hsz, hcell, hfz⟩ := atom_get hR hM hc hcv
  obtain ⟨h1, h2⟩ := atom_set hR hM hL hA hp hsz k y
  exact .inl ⟨_, _, run_call_cas_hit hf hname hb hn k he hcell hfz, κ, S, .bool true, _, [id], ⟨rfl, rfl, rfl⟩, h1, .bool true, h2, .set _ _ _⟩

theorem CallT.aadd (hf : P.funcs[f]? = some fn) (hname : (fn.name == "runtime.NumGoroutine") = false) (hb : fn.body.isNone = true) (hn : Extern.findNext fn = none) (k : IntKind) (he : Extern.find fn = some (Extern.Atomic.update (Op.intArith .add) k true)) {M : Mem O} {id off : Nat} {ek : Option Nat} {cs : List AV} {x y s : Int} (hM : M[id]? = some (.cells ek cs)) (hc : cs[off]? = some (.int k x))
    (hs : ∀ w, (Op.intArith .add k x y).run P w = .ok (.int k s) w) : CallT unf P f [.ptr id off, .int k y] M (fun v M' ch => v = .int k s ∧ M' = M.set id (.cells ek (cs.set off (.int k s))) ∧ ch = [id]) := by
  intro κ S w cargs hR hargs
  obtain ⟨c, d, rfl, hcv, hdv⟩ := args_two hargs
  obtain rfl := hdv.int_inv
  obtain ⟨L, A, t, fz, rfl, hL, hA, hp, hsz, hcell, hfz⟩ := atom_get hR hM hc hcv
  obtain ⟨h1, h2⟩ := atom_set hR hM hL hA hp hsz k s
  exact .inl ⟨_, _, run_call_add hf hname hb hn k he hcell hfz (hs w), κ, S, .int k s, _, [id], ⟨rfl, rfl, rfl⟩, h1, .int k s, h2, .set _ _ _⟩

end
end Go.Am
end
section
namespace Go.Am
open Go

variable {O : Type} {unf : O → List (AO O)} {P : Program}

/-- the first operations of a list -/
theorem pre_sound {ds : List Deferred} {ops : Array Oper} {K : Env → Mem O → Prop} {Q : Exit → Act → World → Prop} {n : Nat} {κ0 : Ctx} {S0 : Nat → Prop} {w0 : World} {tail : List Oper} {idx : List Nat}
    (hend : ∀ κ S w a e M, K e M → Rep unf κ M w S → VRelL κ e a.tmps → a.defers = ds → Post n κ0 S0 w0 κ S w → n ≤ M.length → wpOps P ops Q idx a w) : ∀ (rest : List Oper) (k : Nat) {κ : Ctx} {M : Mem O} {w : World} {S : Nat → Prop} {e : Env} {a : Act}, ops.toList.drop k = rest ++ tail →
      opsA P (CallT unf P) ops.toList K rest e M → Rep unf κ M w S → VRelL κ e a.tmps → a.defers = ds → Post n κ0 S0 w0 κ S w → n ≤ M.length → wpOps P ops Q (List.range' k rest.length ++ idx) a w
  | [], k, κ, M, w, S, e, a, hk, h, hR, hE, hd, hP, hn => hend κ S w a e M h hR hE hd hP hn
  | o :: rest, k, κ, M, w, S, e, a, hk, h, hR, hE, hd, hP, hn => by
    have hlt : k < ops.toList.length := by
      rcases Nat.lt_or_ge k ops.toList.length with h1 | h1
      · exact h1
      · rw [List.drop_of_length_le h1] at hk; cases hk
    rw [List.drop_eq_getElem_cons hlt] at hk
    simp only [List.cons_append, List.cons.injEq] at hk
    obtain ⟨ho, hrest⟩ := hk
    have hok : ops[k]? = some o := by
      simp at hlt
      rw [Array.getElem?_eq_getElem hlt]
      simpa using ho
    simp only [List.length_cons, List.range'_succ, List.cons_append, wpOps, hok]
    simp only [opsA] at h
    obtain ⟨e', h, hE'⟩ := guard_sound hE h
    cases hw : Region.wanted o (yielded ops a.tmps) with
    | true =>
      rw [hw] at h
      simp only [if_true]
      refine .inl (oper_sound hR hE' h fun κ' S' w' v cv M' hK hR' hv hle hP' hlen => ?_)
      obtain ⟨e2, h2, hE2⟩ := VRelL.put (hE'.le hle) hv hK
      exact pre_sound hend rest (k + 1) hrest h2 hR' hE2 (by rw [put_defers]; exact hd) (hP.trans hP' hn) (by omega)
    | false =>
      rw [hw] at h
      simp only [Bool.false_eq_true, if_false]
      obtain ⟨e2, h2, hE2⟩ := VRelL.put hE' (undef_rel κ) h
      exact pre_sound hend rest (k + 1) hrest h2 hR hE2 (by rw [put_defers]; exact hd) hP hn

/-- what a deferred call asks -/
def CallTD (unf : O → List (AO O)) (P : Program) (f : FuncId) (args : List AV) (M : Mem O) (R : AV → Mem O → Prop) : Prop := ∀ κ S w cargs, Rep unf κ M w S → VRelL κ args cargs →
  CallsD P f cargs .returning w fun e u w' => u = .returning ∧ ∃ cv, e = .returned cv ∧ ∃ κ' S' v M', R v M' ∧ Rep unf κ' M' w' S' ∧ VRel κ' v cv ∧ Post M.length κ S w κ' S' w' ∧ M.length ≤ M'.length

theorem CallTD.by_body {f : FuncId} {fn : Func} {c : Code} {args : List AV} {M : Mem O} {R : AV → Mem O → Prop} (hf : P.funcs[f]? = some fn) (hb : fn.body = some c)
    (h : wpA P (CallT unf P) (Ent unf) M.length c (frameOf fn args) M (endK unf M.length M (fun v M' _ => R v M') fn)) : CallTD unf P f args M R := by
  intro κ S w cargs hR hargs
  refine (callsD_of_wp (R := fun e w' => ∃ cv, e = .returned cv ∧ ∃ κ' S' v M', R v M' ∧ Rep unf κ' M' w' S' ∧ VRel κ' v cv ∧ Post M.length κ S w κ' S' w' ∧ M.length ≤ M'.length) hf hb (wpA_sound draw_sound (ds := []) c h hR ?_ rfl (Nat.le_refl _) ?_))
  · refine ⟨by simp [frameOf, hargs.1], fun i h1 h2 => ?_⟩
    simp only [frameOf] at h1 ⊢
    by_cases hi : i < args.length
    · rw [List.getElem_append_left hi, Array.getElem_append_left (by rw [← hargs.1]; exact hi)]
      exact hargs.2 i hi _
    · rw [List.getElem_append_right (by omega), Array.getElem_append_right (by rw [← hargs.1]; omega)]
      simp only [List.getElem_replicate, Array.getElem_replicate]
      exact undef_rel _
  · intro x κ' S' w' a' e' M' hx hR' hE' hd' hP' hn'
    have fin : resultsK fn e' (fun v => fin unf M.length M (fun v M' _ => R v M') v M') → a'.defers = [] ∧ ∃ v, (results fn a'.tmps).run P w' = .ok v w' ∧ (∃ cv, Ending.returned v = .returned cv ∧ ∃ κ' S' v M', R v M' ∧ Rep unf κ' M' w' S' ∧ VRel κ' v cv ∧ Post M.length κ S w κ' S' w' ∧ M.length ≤ M'.length) := by
      intro hx
      obtain ⟨v, cv, hfin, hv, hrun⟩ := results_sound (P := P) (w := w') hE' hx
      unfold Am.fin at hfin
      obtain ⟨v2, M2, ch, hen2, hK2, hch2⟩ := hfin
      obtain ⟨hn2, _, hent2⟩ := hen2 hn'
      obtain ⟨κ2, S2, hR2, hP2, hv2⟩ := hent2 κ' S' w' hR'
      exact ⟨hd', cv, hrun, cv, rfl, κ2, S2, v2, M2, hK2, hR2, hv2 0 (by simp) (by simp) cv hv, hP'.trans hP2 (Nat.le_refl _), hn2⟩
    cases x with
    | exit id => exact hx.elim
    | normal => exact fin hx
    | ret => exact fin hx

/-- what stands at the end of a call -/
def Back1 (unf : O → List (AO O)) (κ : Ctx) (S : Nat → Prop) (w : World) (M : Mem O) (R : AV → Mem O → List Nat → Prop) (e : Ending) (w' : World) : Prop :=
  ∃ cv, e = .returned cv ∧ ∃ κ' S' v M' ch, R v M' ch ∧ Rep unf κ' M' w' S' ∧ VRel κ' v cv ∧ Post M.length κ S w κ' S' w' ∧ ChOk M M' ch

/-- a function that defers, by its body's own rule -/
theorem CallT.of_defers {f : FuncId} {fn : Func} {c : Code} {args : List AV} {M : Mem O} {R : AV → Mem O → List Nat → Prop} (hf : P.funcs[f]? = some fn) (hb : fn.body = some c)
    (hcall : ∀ (args : Array Value) (w : World), (callFunc f args).run P w = .ok (.enter f args) w)
    (h : ∀ κ S w a, Rep unf κ M w S → VRelL κ (frameOf fn args) a.tmps → a.defers = [] → c.wp P (bodyPostD P fn (Back1 unf κ S w M R)) a w) : CallT unf P f args M R := by
  intro κ S w cargs hR hargs
  refine .inr ⟨hcall _ _, calls_of_wp_defers hf hb (h κ S w _ hR ?_ rfl)⟩
  refine ⟨by simp [frameOf, hargs.1], fun i h1 h2 => ?_⟩
  simp only [frameOf] at h1 ⊢
  by_cases hi : i < args.length
  · rw [List.getElem_append_left hi, Array.getElem_append_left (by rw [← hargs.1]; exact hi)]
    exact hargs.2 i hi _
  · rw [List.getElem_append_right (by omega), Array.getElem_append_right (by rw [← hargs.1]; omega)]
    simp only [List.getElem_replicate, Array.getElem_replicate]
    exact undef_rel _

/-- what is left, from a state on -/
@[irreducible] def Next (unf : O → List (AO O)) (P : Program) (n : Nat) (κ : Ctx) (S : Nat → Prop) (w : World) (ds : List Deferred) (c : Code) (Q : Exit → Act → World → Prop) (e : Env) (M : Mem O) : Prop :=
  n ≤ M.length → ∀ κ' S' w' a', Rep unf κ' M w' S' → VRelL κ' e a'.tmps → a'.defers = ds → Post n κ S w κ' S' w' → c.wp P Q a' w'

theorem Next.mk {n : Nat} {κ : Ctx} {S : Nat → Prop} {w : World} {ds : List Deferred} {c : Code} {Q : Exit → Act → World → Prop} {e : Env} {M : Mem O} (h : n ≤ M.length → ∀ κ' S' w' a', Rep unf κ' M w' S' → VRelL κ' e a'.tmps → a'.defers = ds → Post n κ S w κ' S' w' → c.wp P Q a' w') : Next unf P n κ S w ds c Q e M := by
  unfold Next; exact h

theorem Next.seq {n : Nat} {κ : Ctx} {S : Nat → Prop} {w : World} {ds : List Deferred} {c1 c2 : Code} {Q : Exit → Act → World → Prop} {e : Env} {M : Mem O}
    (h : wpA P (CallT unf P) (Ent unf) n c1 e M fun x e' M' => match x with | .normal => Next unf P n κ S w ds c2 Q e' M' | _ => False) : Next unf P n κ S w ds (c1.seq c2) Q e M :=
  .mk fun hn κ' S' w' a' hR hE hd hP => wp_seq (wpA_sound draw_sound c1 h hR hE hd hn fun x κ2 S2 w2 a2 e2 M2 g1 g2 g3 g4 g5 g6 => by
    cases x with
    | normal =>
      have g1 : Next unf P n κ S w ds c2 Q e2 M2 := g1
      unfold Next at g1
      exact g1 g6 κ2 S2 w2 a2 g2 g3 g4 (hP.trans g5 (Nat.le_refl _))
    | exit id => exact g1.elim
    | ret => exact g1.elim)

/-- values of the first objects alone -/
def near (n : Nat) : AV → Bool
  | .ptr i _ => decide (i < n)
  | .bool _ | .int _ _ => true
  | _ => false

theorem near_to {n : Nat} {κ κ' : Ctx} (h : ∀ i, i < n → κ'.at_ i = κ.at_ i) {v : AV} (hv : near n v = true) {cv : Value} (hr : VRel κ v cv) : VRel κ' v cv := by
  cases hr with
  | ptr hL => exact .ptr ((h _ (by simpa [near] using hv)).trans hL)
  | int k m => exact .int k m
  | bool b => exact .bool b
  | _ => cases hv

/-- an operation that defers, the last of its region -/
theorem Next.defer {n : Nat} {κ : Ctx} {S : Nat → Prop} {w : World} {ds : List Deferred} {id : Nat} {ops : Array Oper} {c2 : Code} {Q : Exit → Act → World → Prop} {e : Env} {M : Mem O} {pre : List Oper} {oD : Oper} {g : FuncId} {args : Array Operand} {ts : Array TypeId} {l : List AV}
    (hops : ops.toList = pre ++ [oD]) (hop : oD.op = .defer ⟨.value (.func g), args, ts⟩) (hg : oD.guard = none) (hd : oD.dst = none)
    (h : opsA P (CallT unf P) ops.toList (fun e' M' => evsK e' (fun l' => l' = l ∧ ∀ cargs : Array Value, (∀ κ' : Ctx, (∀ i, i < n → κ'.at_ i = κ.at_ i) → VRelL κ' l cargs) → Next unf P n κ S w ({ target := .fn (.func g) #[], args := cargs } :: ds) c2 Q e' M') args.toList) pre e M)
    (hl : l.all (near n) = true) : Next unf P n κ S w ds ((Code.region id ops false).seq c2) Q e M := by
  refine .mk fun hn κ' S' w' a' hR hE hdef hP => wp_seq (wp_region ?_)
  have hsz : List.range ops.size = List.range' 0 pre.length ++ [pre.length] := by
    have : ops.size = pre.length + 1 := by have := congrArg List.length hops; simpa using this
    rw [this, List.range_succ, List.range_eq_range']
  rw [hsz]
  refine pre_sound (ds := ds) (n := n) (κ0 := κ) (S0 := S) (w0 := w) (tail := [oD]) (fun κ2 S2 w2 a2 e2 M2 g1 g2 g3 g4 g5 g6 => ?_) pre 0 (by simpa using hops) h hR hE hdef hP hn
  have hok : ops[pre.length]? = some oD := by
    rw [← Array.getElem?_toList, hops]; simp
  obtain ⟨l', ⟨rfl, hnext⟩, hl'⟩ := evsK_sound g3 g1
  have hargs : ∀ κ'' : Ctx, (∀ i, i < n → κ''.at_ i = κ.at_ i) → VRelL κ'' l' (args.map a2.eval) := by
    intro κ'' h0
    refine ⟨by have := hl'.1; simpa using this, fun i h1 h2 => ?_⟩
    have := hl'.2 i h1 (by simpa using h2)
    refine near_to (fun j hj => (h0 j hj).trans (g5.at_ j hj).symm) ?_ (by simpa using this)
    simp only [List.all_eq_true] at hl
    exact hl _ (List.getElem_mem h1)
  have hnx := hnext _ hargs
  unfold Next at hnx
  have hfin := hnx g6 κ2 S2 w2 { a2 with defers := { target := .fn (.func g) #[], args := args.map a2.eval } :: a2.defers } g2 g3 (by simp [g4]) g5
  have hw : Region.wanted oD (yielded ops a2.tmps) = true := by simp [Region.wanted, hg]
  simp only [wpOps, hok, hw, if_true]
  refine .inl ?_
  unfold Oper.wp
  have hrun : (execOp a2.eval oD).run P w2 = .ok (.defer { target := .fn (.func g) #[], args := args.map a2.eval }) w2 := by
    simp [execOp, hop, resolve, Act.eval, Deferred.ofValue]
  rw [hrun, Oper.upon_defer]
  simp only [hd, Act.put]
  exact hfin

theorem Next.cond {n : Nat} {κ : Ctx} {S : Nat → Prop} {w : World} {ds : List Deferred} {c : Operand} {x y : Code} {Q : Exit → Act → World → Prop} {e : Env} {M : Mem O}
    (h : evK e (bitK fun t => testK t (Next unf P n κ S w ds x Q e M) (Next unf P n κ S w ds y Q e M)) c) : Next unf P n κ S w ds (Code.cond c x y) Q e M := by
  refine .mk fun hn κ' S' w' a' hR hE hd hP => ?_
  obtain ⟨v, h, hv⟩ := evK_sound hE h
  obtain ⟨b, rfl, h⟩ := bitK_inv h
  obtain ⟨ht, hf⟩ := testK_iff.1 h
  unfold Next at ht hf
  exact wp_cond_split hv.bool_inv (fun hb => ht hb hn κ' S' w' a' hR hE hd hP) (fun hb => hf hb hn κ' S' w' a' hR hE hd hP)

/-- the end, whatever is asked there -/
@[irreducible] def EndQ (unf : O → List (AO O)) (n : Nat) (κ : Ctx) (S : Nat → Prop) (w : World) (ds : List Deferred) (Q : Act → World → Prop) (e : Env) (M : Mem O) : Prop :=
  n ≤ M.length → ∀ κ' S' w' a', Rep unf κ' M w' S' → VRelL κ' e a'.tmps → a'.defers = ds → Post n κ S w κ' S' w' → Q a' w'

theorem EndQ.mk {n : Nat} {κ : Ctx} {S : Nat → Prop} {w : World} {ds : List Deferred} {Q : Act → World → Prop} {e : Env} {M : Mem O} (h : n ≤ M.length → ∀ κ' S' w' a', Rep unf κ' M w' S' → VRelL κ' e a'.tmps → a'.defers = ds → Post n κ S w κ' S' w' → Q a' w') : EndQ unf n κ S w ds Q e M := by
  unfold EndQ; exact h

theorem Next.last {n : Nat} {κ : Ctx} {S : Nat → Prop} {w : World} {ds : List Deferred} {c : Code} {Q : Exit → Act → World → Prop} {e : Env} {M : Mem O}
    (h : wpA P (CallT unf P) (Ent unf) n c e M fun x e' M' => match x with | .normal => EndQ unf n κ S w ds (Q .normal) e' M' | _ => False) : Next unf P n κ S w ds c Q e M :=
  .mk fun hn κ' S' w' a' hR hE hd hP => wpA_sound draw_sound c h hR hE hd hn fun x κ2 S2 w2 a2 e2 M2 g1 g2 g3 g4 g5 g6 => by
    cases x with
    | normal =>
      have g1 : EndQ unf n κ S w ds (Q .normal) e2 M2 := g1
      unfold EndQ at g1
      exact g1 g6 κ2 S2 w2 a2 g2 g3 g4 (hP.trans g5 (Nat.le_refl _))
    | exit id => exact g1.elim
    | ret => exact g1.elim

/-- the calls that were deferred, one behind the other -/
theorem leave_one {n : Nat} {κ : Ctx} {S : Nat → Prop} {w : World} {fn : Func} {tmps : Array Value} {R : Ending → World → Prop} {g : FuncId} {args : Array Value} {ds : List Deferred} {l : List AV} {M : Mem O} {RM : AV → Mem O → Prop}
    (hcall : ∀ (args : Array Value) (w : World), (callFunc g args).run P w = .ok (.enter g args) w) (hargs : ∀ κ' : Ctx, (∀ i, i < n → κ'.at_ i = κ.at_ i) → VRelL κ' l args) (h : CallTD unf P g l M RM) {κ' : Ctx} {S' : Nat → Prop} {w' : World} (hR : Rep unf κ' M w' S') (hP : Post n κ S w κ' S' w') (hn : n ≤ M.length)
    (hk : ∀ v M2 κ2 S2 w2, RM v M2 → Rep unf κ2 M2 w2 S2 → Post n κ S w κ2 S2 w2 → n ≤ M2.length → Leaves P fn tmps R ds .returning w2) : Leaves P fn tmps R ({ target := .fn (.func g) #[], args := args } :: ds) .returning w' := by
  refine leaves_cons (f := g) (args := args) (by simp) ?_ ?_
  · simp [invoke, hcall]
  · refine (h κ' S' w' args hR (hargs κ' hP.at_)).mono ?_
    rintro e u w2 ⟨rfl, cv, rfl, κ2, S2, v, M2, h1, h2, h3, h4, h5⟩
    exact hk v M2 κ2 S2 w2 h1 h2 (hP.trans h4 hn) (by omega)

end Go.Am
end
section
namespace Go.Am
open Go Go.Proofs
theorem sz5 (h : 5 < Tryd.prog.types.size) : (Tryd.prog.types[5]'h).size = 1 := by kernel_rfl
theorem by5 (h : 5 < Tryd.prog.types.size) : (Tryd.prog.types[5]'h).bytes = 1 := by kernel_rfl
theorem sz9 (h : 9 < Tryd.prog.types.size) : (Tryd.prog.types[9]'h).size = 1 := by kernel_rfl
theorem by9 (h : 9 < Tryd.prog.types.size) : (Tryd.prog.types[9]'h).bytes = 16 := by kernel_rfl
theorem sz61 (h : 61 < Tryd.prog.types.size) : (Tryd.prog.types[61]'h).size = 4 := by kernel_rfl
theorem by61 (h : 61 < Tryd.prog.types.size) : (Tryd.prog.types[61]'h).bytes = 40 := by kernel_rfl
theorem sz3 (h : 3 < Tryd.prog.types.size) : (Tryd.prog.types[3]'h).size = 1 := by kernel_rfl
theorem by3 (h : 3 < Tryd.prog.types.size) : (Tryd.prog.types[3]'h).bytes = 8 := by kernel_rfl
end Go.Am
end
section
namespace Go.Am
open Go Go.Proofs

/-- a token -/
structure Tok where
  kind : Int
  cmd : Int
  opt : Int
  text : List UInt8
  deriving DecidableEq

def Tok.cells (t : Tok) : List AV := [.int .i64 t.kind, .int .i64 t.cmd, .int .i64 t.opt, .str t.text]

/-- a reader -/
structure Rdr where
  bin : Bool
  st : Int
  after : Bool
  cmd : Int
  opt : Int
  sub : Option (List UInt8)
  long : Bool
  data : Option (List UInt8)
  out : Option (List Tok)

/-- the document's reader -/
structure Ref where
  bin : Bool
  cr : Bool
  cmd : Option (List UInt8)
  inn : Bool
  opt : Int
  body : Option (List UInt8)
  long : Bool
  iac : Bool

/-- a reader that was never used, or one that was; the document's -/
inductive Ob where
  | fresh (bin : Bool)
  | rdr (r : Rdr)
  | ref (r : Ref)

def tabOf : List Int := [2, 1, 1, 1, 1, 1, 3, 6, 4, 3, 5, 5, 5, 5, 5, 7, 7, 7, 7, 7, 9, 8, 8, 8, 8, 8, 10, 11, 11, 11]

def bySl (i : Nat) : Option (List UInt8) → AV
  | none => .nilS
  | some s => .sl i 0 s.length s.length
def byRow : Option (List UInt8) → AO Ob
  | none => .dead
  | some s => .cells (some 1) (encB s)
def toSl (i : Nat) : Option (List Tok) → AV
  | none => .nilS
  | some s => .sl i 0 s.length s.length
def toRow : Option (List Tok) → AO Ob
  | none => .dead
  | some s => .cells (some 4) (s.flatMap Tok.cells)

def Rdr.tail (r : Rdr) : List AV := [.int .i64 r.st, .bool r.after, .int .i64 r.cmd, .int .i64 r.opt, bySl 1 r.sub, .bool r.long, bySl 2 r.data, toSl 3 r.out]
def Rdr.root (done : Int) (tab : List Int) (r : Rdr) : List AV := .bool r.bin :: .int .u32 done :: .int .i32 0 :: .int .u32 0 :: (tab.map (AV.int .i64) ++ r.tail)
/-- the document's reader's cells -/
def refC (r : Ref) (d1 d2 : AV) : List AV := [.bool r.bin, .bool r.cr, d1, .bool r.inn, .int .i64 r.opt, d2, .bool r.long, .bool r.iac]
/-- bytes of a literal -/
def exRow : Option (List UInt8) → AO Ob
  | none => .dead
  | some s => .cells none (encB s)
def unfW : Ob → List (AO Ob)
  | .fresh bin => [.cells none (Rdr.root 0 (List.replicate 30 0) ⟨bin, 0, false, 0, 0, none, false, none, none⟩), .dead, .dead, .dead]
  | .rdr r => [.cells none (r.root 1 tabOf), byRow r.sub, byRow r.data, toRow r.out]
  | .ref r => [.cells none (refC r (bySl 1 r.cmd) (bySl 2 r.body)), exRow r.cmd, byRow r.body]

def Rdr.byte (r : Rdr) (b : UInt8) : Rdr := if r.after && b == 0 && !r.bin then { r with after := false } else { r with after := b == 13, data := some (r.data.getD [] ++ [b]) }

abbrev T := CallT unfW Tryd.prog

theorem low_bySl {τ : List Nat} {i j : Nat} (h : τ[i]? = some j) (s : Option (List UInt8)) : Low τ (bySl i s) (bySl j s) := by
  cases s
  · exact .nilS
  · exact .sl h
theorem low_toSl {τ : List Nat} {i j : Nat} (h : τ[i]? = some j) (s : Option (List Tok)) : Low τ (toSl i s) (toSl j s) := by
  cases s
  · exact .nilS
  · exact .sl h

/-- a reader's cells -/
def rootC (bin : Bool) (d : Int) (tab : List Int) (st : Int) (after : Bool) (cmd opt : Int) (d1 : AV) (long : Bool) (d2 d3 : AV) : List AV :=
  .bool bin :: .int .u32 d :: .int .i32 0 :: .int .u32 0 :: (tab.map (AV.int .i64) ++ [.int .i64 st, .bool after, .int .i64 cmd, .int .i64 opt, d1, .bool long, d2, d3])

theorem low_root {τ : List Nat} {r : Rdr} {d1 d2 d3 : AV} (d : Int) (tab : List Int) (h1 : Low τ (bySl 1 r.sub) d1) (h2 : Low τ (bySl 2 r.data) d2) (h3 : Low τ (toSl 3 r.out) d3) :
    LowL τ (r.root d tab) (rootC r.bin d tab r.st r.after r.cmd r.opt d1 r.long d2 d3) := by
  refine .cons (.bool _) (.cons (.int _ _) (.cons (.int _ _) (.cons (.int _ _) (.app (.flat fun v hv => ?_) ?_))))
  · simp at hv; obtain ⟨x, _, rfl⟩ := hv; exact .int _ _
  · exact .cons (.int _ _) (.cons (.bool _) (.cons (.int _ _) (.cons (.int _ _) (.cons h1 (.cons (.bool _) (.cons h2 (.cons h3 (.nil _))))))))

theorem part_by {τ ts : List Nat} {M : Mem Ob} {os : Mem Ob} {t : Nat} {s : Option (List UInt8)} (h : s = none ∨ M[t]? = some (byRow s)) (hp : Parts τ M ts os) : Parts τ M (t :: ts) (byRow s :: os) := by
  cases s with
  | none => exact .dead hp
  | some s => exact .some (h.resolve_left (by simp)) (.cells (.flat (flat_encB s))) hp
theorem part_to {τ ts : List Nat} {M : Mem Ob} {os : Mem Ob} {t : Nat} {s : Option (List Tok)} (h : s = none ∨ M[t]? = some (toRow s)) (hp : Parts τ M ts os) : Parts τ M (t :: ts) (toRow s :: os) := by
  cases s with
  | none => exact .dead hp
  | some s =>
    refine .some (h.resolve_left (by simp)) (.cells (.flat fun v hv => ?_)) hp
    simp [Tok.cells] at hv
    obtain ⟨t, _, rfl | rfl | rfl | rfl⟩ := hv <;> constructor

/-- a reader folded again -/
theorem fin_rdr {r' : Rdr} {M0 : Mem Ob} {R : AV → Mem Ob → List Nat → Prop} {v v' : AV} {M' : Mem Ob} {a b c : Nat} {d1 d2 d3 : AV} (hn : [0, a, b, c].Nodup) (h0 : M'[0]? = some (.cells none (rootC r'.bin 1 tabOf r'.st r'.after r'.cmd r'.opt d1 r'.long d2 d3)))
    (g1 : Low [0, a, b, c] (bySl 1 r'.sub) d1) (g2 : Low [0, a, b, c] (bySl 2 r'.data) d2) (g3 : Low [0, a, b, c] (toSl 3 r'.out) d3)
    (h1 : r'.sub = none ∨ M'[a]? = some (byRow r'.sub)) (h2 : r'.data = none ∨ M'[b]? = some (byRow r'.data)) (h3 : r'.out = none ∨ M'[c]? = some (toRow r'.out))
    (hv : Low [0] v' v) (hM0 : ∃ o, M0 = [o]) (hR : R v' [.obj (.rdr r')] [0]) : fin unfW 1 M0 R v M' := by
  obtain ⟨o, rfl⟩ := hM0
  refine fin.mk v' [.obj (.rdr r')] [0] (Ent.pack1 (Parts.low hn (.some h0 (.cells (low_root 1 tabOf g1 g2 g3)) (part_by h1 (part_by h2 (part_to h3 .nil))))) (by simp [unfW]) hv ?_) hR ⟨by simp, fun i hi hn => ?_⟩
  · have := (List.getElem?_eq_some_iff.1 h0).1; omega
  · simp at hi hn; omega

theorem low_unit {τ : List Nat} : Low τ (.tup []) (.tup []) := .tup rfl fun i h => by simp at h

theorem byte_eq (b : UInt8) (n : UInt8) : decide ((b.toNat : Int) = (n.toNat : Int)) = (b == n) := by
  by_cases h : b = n
  · subst h; simp
  · have : ¬(b.toNat : Int) = (n.toNat : Int) := fun hc => h (UInt8.toNat_inj.1 (by exact_mod_cast hc))
    simp [h, this]


set_option maxRecDepth 10000
theorem byte_ok (r : Rdr) (b : UInt8) (hd : (r.data.getD []).length < 100000000) : T 40 [.ptr 0 0, .int .u8 b.toNat] [.obj (.rdr r)] (fun v M' ch => v = .tup [] ∧ M' = [.obj (.rdr (r.byte b))] ∧ ch = [0]) := by
  obtain ⟨bin, st, after, cmd, opt, sub, long, data, out⟩ := r
  refine CallT.by_body Tryd.func40 rfl Tryd.call40 rfl (Ent.open1 (by simp [unfW])) ?_
  have hb : decide ((b.toNat : Int) = 13) = (b == 13) := byte_eq b 13
  have hb0 : decide ((b.toNat : Int) = 0) = (b == 0) := byte_eq b 0
  cases after <;> cases bin <;> rcases data with _ | s <;> (((conv => whnf); (repeat ((with_reducible refine Rest.mk ?_); (conv => whnf)))))
  all_goals repeat' (refine testK_split (fun h => ?_) (fun h => ?_) <;> ((conv => whnf); (repeat ((with_reducible refine Rest.mk ?_); (conv => whnf)))))
  all_goals simp only [sz5, by5] at *
  all_goals try (exfalso; simp [encB] at *; done)
  all_goals try (exfalso; simp [encB] at *; omega)
  all_goals first
    | exact fin_rdr (r' := ⟨_, st, decide ((b.toNat : Int) = 13), cmd, opt, sub, long, some ([] ++ [b]), out⟩) (a := 1) (b := 5) (c := 3) (by decide) rfl (low_bySl rfl _) (.sl rfl) (low_toSl rfl _) (.inr rfl) (.inr rfl) (.inr rfl) low_unit ⟨_, rfl⟩ ⟨rfl, by simp_all [Rdr.byte], rfl⟩
    | exact fin_rdr (r' := ⟨_, st, decide ((b.toNat : Int) = 13), cmd, opt, sub, long, some (s ++ [b]), out⟩) (a := 1) (b := 5) (c := 3) (by decide) rfl (low_bySl rfl _) (by simp only [bySl, List.length_append, List.length_singleton]; exact .sl rfl) (low_toSl rfl _) (.inr rfl) (.inr (by simp [byRow, sub_encB, sub_one, encB_app, encB_one])) (.inr rfl) low_unit ⟨_, rfl⟩ ⟨rfl, by simp_all [Rdr.byte], rfl⟩
    | exact fin_rdr (r' := ⟨_, st, false, cmd, opt, sub, long, _, out⟩) (a := 1) (b := 2) (c := 3) (by decide) rfl (low_bySl rfl _) (low_bySl rfl _) (low_toSl rfl _) (.inr rfl) (.inr rfl) (.inr rfl) low_unit ⟨_, rfl⟩ ⟨rfl, by simp_all [Rdr.byte], rfl⟩
end Go.Am
end
section
namespace Go.Am
open Go Go.Proofs

def Rdr.flush (r : Rdr) : Rdr := match r.data with
  | some (b :: l) => { r with out := some (r.out.getD [] ++ [⟨0, 0, 0, b :: l⟩]), data := none }
  | _ => r

theorem toks_length (s : List Tok) : (s.flatMap Tok.cells).length = s.length * 4 := by
  induction s with
  | nil => rfl
  | cons t s ih => simp [List.flatMap_cons, ih, Tok.cells]; omega
theorem sub_toks (s : List Tok) : Am.sub (s.flatMap Tok.cells) 0 (s.length * 4) = s.flatMap Tok.cells := by rw [← toks_length]; exact sub_all _


set_option maxRecDepth 10000
theorem flush_ok (r : Rdr) (hd : (r.out.getD []).length < 100000000) : T 31 [.ptr 0 0] [.obj (.rdr r)] (fun v M' ch => v = .tup [] ∧ M' = [.obj (.rdr r.flush)] ∧ ch = [0]) := by
  obtain ⟨bin, st, after, cmd, opt, sub, long, data, out⟩ := r
  refine CallT.by_body Tryd.func31 rfl Tryd.call31 rfl (Ent.open1 (by simp [unfW])) ?_
  rcases data with _ | _ | ⟨b, l⟩ <;> rcases out with _ | s <;> (((conv => whnf); (repeat ((with_reducible refine Rest.mk ?_); (conv => whnf)))))
  all_goals repeat' (first | (refine testK_true (b := drawOk _ _ _) (by kernel_rfl) ?_; ((conv => whnf); (repeat ((with_reducible refine Rest.mk ?_); (conv => whnf))))) | (refine testK_split (fun h => ?_) (fun h => ?_) <;> ((conv => whnf); (repeat ((with_reducible refine Rest.mk ?_); (conv => whnf))))))
  all_goals simp only [sz5, by5, sz61, by61, Nat.mul_one, sub_encB, all_encB, decB_encB, encB_length, toks_length, sub_toks] at *
  all_goals try (exfalso; simp [encB_length] at *; done)
  all_goals try (exfalso; simp [encB_length] at *; omega)
  all_goals try exact fin_rdr (r' := ⟨bin, st, after, cmd, opt, sub, long, _, _⟩) (a := 1) (b := 2) (c := 3) (by decide) rfl (low_bySl rfl _) (low_bySl rfl _) (low_toSl rfl _) (.inr rfl) (.inr rfl) (.inr rfl) low_unit ⟨_, rfl⟩ ⟨rfl, rfl, rfl⟩
  · exact fin_rdr (r' := ⟨bin, st, after, cmd, opt, sub, long, none, some ([] ++ [⟨0, 0, 0, b :: l⟩])⟩) (a := 1) (b := 2) (c := 4) (by decide) rfl (low_bySl rfl _) .nilS (.sl rfl) (.inr rfl) (.inl rfl) (.inr rfl) low_unit ⟨_, rfl⟩ ⟨rfl, rfl, rfl⟩
  · exact fin_rdr (r' := ⟨bin, st, after, cmd, opt, sub, long, none, some (s ++ [⟨0, 0, 0, b :: l⟩])⟩) (a := 1) (b := 2) (c := 4) (by decide) rfl (low_bySl rfl _) .nilS (by simp only [toSl, List.length_append, List.length_singleton]; exact .sl rfl) (.inr rfl) (.inl rfl) (.inr (by simp [toRow, Tok.cells, ofCell])) low_unit ⟨_, rfl⟩ ⟨rfl, rfl, rfl⟩

end Go.Am
end
section
set_option linter.unusedSimpArgs false
namespace Go.Am
open Go Go.Proofs

theorem ren_bySl (τ : List Nat) (i : Nat) (s : Option (List UInt8)) : renV τ (bySl i s) = bySl (τ.getD i 0) s := by cases s <;> rfl
theorem ren_toSl (τ : List Nat) (i : Nat) (s : Option (List Tok)) : renV τ (toSl i s) = toSl (τ.getD i 0) s := by cases s <;> rfl
theorem ren_byRow (τ : List Nat) (s : Option (List UInt8)) : renO τ (byRow s) = byRow s := by
  cases s
  · rfl
  · simp [byRow, renO, renVs_encB]
theorem flat_toks (s : List Tok) : ∀ v, v ∈ s.flatMap Tok.cells → Flat v := by
  intro v hv
  simp [Tok.cells] at hv
  obtain ⟨t, _, rfl | rfl | rfl | rfl⟩ := hv <;> constructor
theorem ren_toRow (τ : List Nat) (s : Option (List Tok)) : renO τ (toRow s) = toRow s := by
  cases s
  · rfl
  · simp [toRow, renO, renVs_flat (flat_toks _)]

theorem renO_cells {O : Type} (τ : List Nat) (ek : Option Nat) (cs : List AV) : renO (O := O) τ (.cells ek cs) = .cells ek (renVs τ cs) := rfl

/-- a reader unfolded at the first place -/
theorem unfold_rdr (r : Rdr) (x : AO Ob) (M : Mem Ob) : unfoldM unfW 0 (.rdr r) (x :: M) = .cells none (rootC r.bin 1 tabOf r.st r.after r.cmd r.opt (bySl (M.length + 1) r.sub) r.long (bySl (M.length + 2) r.data) (toSl (M.length + 3) r.out)) :: (M ++ [byRow r.sub, byRow r.data, toRow r.out]) := by
  simp [unfoldM, unfW, ren_byRow, ren_toRow, renO_cells, renVs_map, Rdr.root, Rdr.tail, rootC, ren_bySl, ren_toSl, renV, List.range_succ, Nat.add_assoc]

/-- a call on a reader that is unfolded -/
theorem call_rdr {f : FuncId} {args0 args : List AV} {r : Rdr} {g : Rdr → AV → Prop} {M : Mem Ob} {R : AV → Mem Ob → List Nat → Prop} {a b c : Nat} {d1 d2 d3 : AV}
    (spec : T f args0 [.obj (.rdr r)] fun v M' ch => (∃ r', g r' v ∧ M' = [.obj (.rdr r')]) ∧ ch = [0])
    (hn : [0, a, b, c].Nodup) (h0 : M[0]? = some (.cells none (rootC r.bin 1 tabOf r.st r.after r.cmd r.opt d1 r.long d2 d3)))
    (g1 : Low [0, a, b, c] (bySl 1 r.sub) d1) (g2 : Low [0, a, b, c] (bySl 2 r.data) d2) (g3 : Low [0, a, b, c] (toSl 3 r.out) d3)
    (h1 : r.sub = none ∨ M[a]? = some (byRow r.sub)) (h2 : r.data = none ∨ M[b]? = some (byRow r.data)) (h3 : r.out = none ∨ M[c]? = some (toRow r.out))
    (ha : LowL [0] args0 args) (hk : ∀ r' v, g r' v → renV [0] v = v ∧ R v (.cells none (rootC r'.bin 1 tabOf r'.st r'.after r'.cmd r'.opt (bySl M.length r'.sub) r'.long (bySl (M.length + 1) r'.data) (toSl (M.length + 2) r'.out)) :: ((killM [a, b, c] M).tail ++ [byRow r'.sub, byRow r'.data, toRow r'.out])) (List.range M.length)) : T f args M R := by
  have hlt : 0 < M.length := (List.getElem?_eq_some_iff.1 h0).1
  refine CallT.folded spec (r := 0) (cs := [a, b, c]) (Parts.low hn (.some h0 (.cells (low_root 1 tabOf g1 g2 g3)) (part_by h1 (part_by h2 (part_to h3 .nil))))) (by simp [unfW]) ha hlt fun v M0' ch ⟨⟨r', hg, hM⟩, _⟩ => ?_
  obtain ⟨h4, h5⟩ := hk r' v hg
  refine ⟨.rdr r', v, rfl, hM, h4, ?_⟩
  have hl : (killM [a, b, c] M).length = M.length := killM_length _ _
  cases hkm : killM [a, b, c] M with
  | nil => rw [hkm] at hl; simp at hl; omega
  | cons x l =>
    rw [hkm] at h5 hl
    rw [List.set_cons_zero, unfold_rdr]
    simp only [List.length_cons] at hl
    rw [show l.length + 1 = M.length from hl, show l.length + 2 = M.length + 1 by omega, show l.length + 3 = M.length + 2 by omega]
    exact h5

def Rdr.tell (r : Rdr) (t : Tok) : Rdr := { r.flush with out := some (r.flush.out.getD [] ++ [t]) }

theorem flush_out (r : Rdr) : (r.flush.out.getD []).length ≤ (r.out.getD []).length + 1 := by
  unfold Rdr.flush
  split <;> simp

set_option maxRecDepth 10000
attribute [local irreducible] CallT Ent
theorem tell_ok (r : Rdr) (t : Tok) (hd : (r.out.getD []).length < 90000000) : T 41 [.ptr 0 0, .agg t.cells] [.obj (.rdr r)] (fun v M' ch => v = .tup [] ∧ M' = [.obj (.rdr (r.tell t))] ∧ ch = [0]) := by
  have hfl := flush_ok r (by omega)
  have hfo := flush_out r
  obtain ⟨tk, tc, top, tt⟩ := t
  refine CallT.by_body Tryd.func41 rfl Tryd.call41 rfl (Ent.open1 (by simp [unfW])) ?_
  ((conv => whnf); (repeat ((with_reducible refine Rest.mk ?_); (conv => whnf))))
  refine call_rdr (r := r) (g := fun r' v => r' = r.flush ∧ v = .tup []) (a := 1) (b := 2) (c := 3) (hfl.mono fun v M' ch ⟨h1, h2, h3⟩ _ => ⟨⟨_, ⟨rfl, h1⟩, h2⟩, h3⟩) (by decide) rfl (low_bySl rfl _) (low_bySl rfl _) (low_toSl rfl _) (.inr rfl) (.inr rfl) (.inr rfl) (.cons (.ptr rfl) (.nil _)) ?_
  rintro r' v ⟨rfl, rfl⟩
  refine ⟨rfl, ?_⟩
  simp only [Rdr.tell]
  generalize r.flush = rf at hfo ⊢
  obtain ⟨bin, st, after, cmd, opt, sub, long, data, out⟩ := rf
  rcases out with _ | s <;> (((conv => whnf); (repeat ((with_reducible refine Rest.mk ?_); (conv => whnf)))))
  all_goals repeat' (first | (refine testK_true (b := drawOk _ _ _) (by kernel_rfl) ?_; ((conv => whnf); (repeat ((with_reducible refine Rest.mk ?_); (conv => whnf))))) | (refine testK_split (fun h => ?_) (fun h => ?_) <;> ((conv => whnf); (repeat ((with_reducible refine Rest.mk ?_); (conv => whnf))))))
  all_goals simp only [sz5, by5, sz61, by61, Nat.mul_one, sub_encB, all_encB, decB_encB, encB_length, toks_length, sub_toks] at *
  all_goals try (exfalso; simp at *; done)
  all_goals try (exfalso; simp at *; omega)
  · exact fin_rdr (r' := ⟨bin, st, after, cmd, opt, sub, long, data, some ([] ++ [⟨tk, tc, top, tt⟩])⟩) (a := 5) (b := 6) (c := 8) (by decide) rfl (low_bySl rfl _) (low_bySl rfl _) (.sl rfl) (.inr rfl) (.inr rfl) (.inr rfl) low_unit ⟨_, rfl⟩ ⟨rfl, rfl, rfl⟩
  · exact fin_rdr (r' := ⟨bin, st, after, cmd, opt, sub, long, data, some (s ++ [⟨tk, tc, top, tt⟩])⟩) (a := 5) (b := 6) (c := 8) (by decide) rfl (low_bySl rfl _) (low_bySl rfl _) (by simp only [toSl, List.length_append, List.length_singleton]; exact .sl rfl) (.inr rfl) (.inr rfl) (.inr (by simp [toRow, Tok.cells])) low_unit ⟨_, rfl⟩ ⟨rfl, rfl, rfl⟩

end Go.Am
end
section
set_option linter.unusedSimpArgs false
namespace Go.Am
open Go Go.Proofs

def cls (b : UInt8) : Int := if b = 255 then 0 else if b = 240 then 1 else if b = 250 then 2 else if b = 251 ∨ b = 252 ∨ b = 253 ∨ b = 254 then 3 else 4

theorem class_ok (b : UInt8) (M : Mem Ob) : T 39 [.int .u8 b.toNat] M (fun v M' ch => v = .int .i64 (cls b) ∧ M' = M ∧ ch = []) := by
  refine CallT.by_body Tryd.func39 rfl Tryd.call39 rfl (.refl _ _ _) ?_
  ((conv => whnf); (repeat ((with_reducible refine Rest.mk ?_); (conv => whnf))))
  repeat' (refine testK_split (fun h => ?_) (fun h => ?_) <;> ((conv => whnf); (repeat ((with_reducible refine Rest.mk ?_); (conv => whnf)))))
  all_goals simp only [show decide ((b.toNat : Int) = 255) = (b == 255) from byte_eq b 255, show decide ((b.toNat : Int) = 240) = (b == 240) from byte_eq b 240, show decide ((b.toNat : Int) = 250) = (b == 250) from byte_eq b 250,
    show decide ((b.toNat : Int) = 251) = (b == 251) from byte_eq b 251, show decide ((b.toNat : Int) = 252) = (b == 252) from byte_eq b 252, show decide ((b.toNat : Int) = 253) = (b == 253) from byte_eq b 253, show decide ((b.toNat : Int) = 254) = (b == 254) from byte_eq b 254] at *
  all_goals refine fin.mk _ _ [] (.refl _ _ _) ⟨?_, rfl, rfl⟩ (.refl _ _)
  all_goals simp_all [cls]

def Rdr.cmdStep (r : Rdr) (b : UInt8) : Rdr :=
  if cls b = 0 then { r with st := 0 }.byte b
  else if cls b = 2 then { r with st := 3 }
  else if cls b = 3 then { r with st := 2, cmd := b.toNat }
  else { r with st := 0 }.tell ⟨1, b.toNat, 0, []⟩

theorem cls_cases (b : UInt8) : cls b = 0 ∨ cls b = 1 ∨ cls b = 2 ∨ cls b = 3 ∨ cls b = 4 := by
  unfold cls
  split
  · simp
  split
  · simp
  split
  · simp
  split
  · simp
  · simp

theorem wrap_byte (b : UInt8) : IntKind.i64.wrap (b.toNat : Int) = (b.toNat : Int) := by
  have := b.toNat_lt
  rw [IntKind.wrap_i64]; omega

theorem byte_args (b : UInt8) : LowL [0] [.ptr 0 0, .int .u8 b.toNat] [.ptr 0 0, .int .u8 b.toNat] := .cons (.ptr rfl) (.cons (.int _ _) (.nil _))
theorem tell_args (t : Tok) : LowL [0] [.ptr 0 0, .agg t.cells] [.ptr 0 0, .agg t.cells] := .cons (.ptr rfl) (.cons (.agg rfl fun i h _ => by
  have : LowL [0] t.cells t.cells := .cons (.int _ _) (.cons (.int _ _) (.cons (.int _ _) (.cons (.str _) (.nil _))))
  exact this.2 i h h) (.nil _))

set_option maxRecDepth 10000
attribute [local irreducible] CallT Ent
theorem cmdStep_ok (r : Rdr) (b : UInt8) (hst : r.st = 1) (ho : (r.out.getD []).length < 80000000) (hd : (r.data.getD []).length < 90000000) : T 30 [.ptr 0 0, .int .u8 b.toNat] [.obj (.rdr r)] (fun v M' ch => v = .tup [] ∧ M' = [.obj (.rdr (r.cmdStep b))] ∧ ch = [0]) := by
  obtain ⟨bin, st, after, cmd, opt, sub, long, data, out⟩ := r
  obtain rfl : st = 1 := hst
  refine CallT.by_body Tryd.func30 rfl Tryd.call30 rfl (Ent.open1 (by simp [unfW])) ?_
  ((conv => whnf); (repeat ((with_reducible refine Rest.mk ?_); (conv => whnf))))
  refine testK_true (b := drawOk _ _ _) (by kernel_rfl) ?_
  ((conv => whnf); (repeat ((with_reducible refine Rest.mk ?_); (conv => whnf))))
  refine (class_ok b _).mono ?_
  rintro v M' ch ⟨rfl, rfl, rfl⟩ _
  simp only [Rdr.cmdStep]
  rcases cls_cases b with h | h | h | h | h <;> rw [h] <;> (((conv => whnf); (repeat ((with_reducible refine Rest.mk ?_); (conv => whnf)))))
  all_goals try rw [wrap_byte]
  · refine call_rdr (r := ⟨bin, 0, after, cmd, opt, sub, long, data, out⟩) (g := fun r' v => r' = Rdr.byte ⟨bin, 0, after, cmd, opt, sub, long, data, out⟩ b ∧ v = .tup []) (a := 1) (b := 2) (c := 3) ((byte_ok _ b (by simp at hd ⊢; omega)).mono fun v M' ch ⟨h1, h2, h3⟩ _ => ⟨⟨_, ⟨rfl, h1⟩, h2⟩, h3⟩) (by decide) rfl (low_bySl rfl _) (low_bySl rfl _) (low_toSl rfl _) (.inr rfl) (.inr rfl) (.inr rfl) (byte_args b) ?_
    rintro r' v ⟨rfl, rfl⟩
    refine ⟨rfl, ?_⟩
    ((conv => whnf); (repeat ((with_reducible refine Rest.mk ?_); (conv => whnf))))
    exact fin_rdr (r' := Rdr.byte ⟨bin, 0, after, cmd, opt, sub, long, data, out⟩ b) (a := 4) (b := 5) (c := 6) (by decide) rfl (low_bySl rfl _) (low_bySl rfl _) (low_toSl rfl _) (.inr rfl) (.inr rfl) (.inr rfl) low_unit ⟨_, rfl⟩ ⟨rfl, rfl, rfl⟩
  · refine call_rdr (r := ⟨bin, 0, after, cmd, opt, sub, long, data, out⟩) (g := fun r' v => r' = Rdr.tell ⟨bin, 0, after, cmd, opt, sub, long, data, out⟩ ⟨1, b.toNat, 0, []⟩ ∧ v = .tup []) (a := 1) (b := 2) (c := 3) ((tell_ok _ ⟨1, b.toNat, 0, []⟩ (by simp at ho ⊢; omega)).mono fun v M' ch ⟨h1, h2, h3⟩ _ => ⟨⟨_, ⟨rfl, h1⟩, h2⟩, h3⟩) (by decide) rfl (low_bySl rfl _) (low_bySl rfl _) (low_toSl rfl _) (.inr rfl) (.inr rfl) (.inr rfl) (tell_args ⟨1, b.toNat, 0, []⟩) ?_
    rintro r' v ⟨rfl, rfl⟩
    refine ⟨rfl, ?_⟩
    ((conv => whnf); (repeat ((with_reducible refine Rest.mk ?_); (conv => whnf))))
    exact fin_rdr (r' := Rdr.tell ⟨bin, 0, after, cmd, opt, sub, long, data, out⟩ ⟨1, b.toNat, 0, []⟩) (a := 4) (b := 5) (c := 6) (by decide) rfl (low_bySl rfl _) (low_bySl rfl _) (low_toSl rfl _) (.inr rfl) (.inr rfl) (.inr rfl) low_unit ⟨_, rfl⟩ ⟨rfl, rfl, rfl⟩
  · exact fin_rdr (r' := ⟨bin, 3, after, cmd, opt, sub, long, data, out⟩) (a := 1) (b := 2) (c := 3) (by decide) rfl (low_bySl rfl _) (low_bySl rfl _) (low_toSl rfl _) (.inr rfl) (.inr rfl) (.inr rfl) low_unit ⟨_, rfl⟩ ⟨rfl, rfl, rfl⟩
  · exact fin_rdr (r' := ⟨bin, 2, after, b.toNat, opt, sub, long, data, out⟩) (a := 1) (b := 2) (c := 3) (by decide) rfl (low_bySl rfl _) (low_bySl rfl _) (low_toSl rfl _) (.inr rfl) (.inr rfl) (.inr rfl) low_unit ⟨_, rfl⟩ ⟨rfl, rfl, rfl⟩
  · refine call_rdr (r := ⟨bin, 0, after, cmd, opt, sub, long, data, out⟩) (g := fun r' v => r' = Rdr.tell ⟨bin, 0, after, cmd, opt, sub, long, data, out⟩ ⟨1, b.toNat, 0, []⟩ ∧ v = .tup []) (a := 1) (b := 2) (c := 3) ((tell_ok _ ⟨1, b.toNat, 0, []⟩ (by simp at ho ⊢; omega)).mono fun v M' ch ⟨h1, h2, h3⟩ _ => ⟨⟨_, ⟨rfl, h1⟩, h2⟩, h3⟩) (by decide) rfl (low_bySl rfl _) (low_bySl rfl _) (low_toSl rfl _) (.inr rfl) (.inr rfl) (.inr rfl) (tell_args ⟨1, b.toNat, 0, []⟩) ?_
    rintro r' v ⟨rfl, rfl⟩
    refine ⟨rfl, ?_⟩
    ((conv => whnf); (repeat ((with_reducible refine Rest.mk ?_); (conv => whnf))))
    exact fin_rdr (r' := Rdr.tell ⟨bin, 0, after, cmd, opt, sub, long, data, out⟩ ⟨1, b.toNat, 0, []⟩) (a := 4) (b := 5) (c := 6) (by decide) rfl (low_bySl rfl _) (low_bySl rfl _) (low_toSl rfl _) (.inr rfl) (.inr rfl) (.inr rfl) low_unit ⟨_, rfl⟩ ⟨rfl, rfl, rfl⟩
end Go.Am
end
section
namespace Go.Am
open Go

variable {O : Type} {unf : O → List (AO O)} {P : Program}

theorem dropAt {cs : List AV} {off : Nat} {v : AV} {R : List AV → Prop} (h : cs[off]? = some v) (hr : R (v :: cs.drop (off + 1))) : dropK R off cs := by
  obtain ⟨hlt, hv⟩ := List.getElem?_eq_some_iff.1 h
  refine dropK_iff.2 ⟨by omega, ?_⟩
  rw [List.drop_eq_getElem_cons hlt, hv]
  exact hr

/-- a loop whose states are told by a ghost -/
theorem loopG {α : Type} {n : Nat} {body : Env → Mem O → (AX → Env → Mem O → Prop) → Prop} {e : Env} {M : Mem O} {Q : AX → Env → Mem O → Prop}
    (inv : α → Prop) (st : α → Env) (mm : α → Mem O) (μ : α → Nat) (a0 : α) (h0 : inv a0) (hen : Ent unf n e M (st a0) (mm a0))
    (hround : ∀ a, inv a → body (st a) (mm a) fun x e' M' => match x with
      | .normal => ∃ a' e'' M'', Ent unf n e' M' e'' M'' ∧ (inv a' ∧ e'' = st a' ∧ M'' = mm a') ∧ μ a' < μ a
      | x => Q x e' M') : loopA (Ent unf) n body e M Q := by
  refine ⟨α, fun a e M => inv a ∧ e = st a ∧ M = mm a, μ, ⟨a0, _, _, hen, h0, rfl, rfl⟩, ?_⟩
  rintro a _ _ ⟨ha, rfl, rfl⟩
  exact hround a ha

/-- the cell at a place -/
theorem dropHead {cs : List AV} {off : Nat} {v : AV} {R : AV → Prop} (h : cs[off]? = some v) (hr : R v) : dropK (headK R) off cs := by
  obtain ⟨hlt, hv⟩ := List.getElem?_eq_some_iff.1 h
  refine dropK_iff.2 ⟨by omega, ?_⟩
  rw [List.drop_eq_getElem_cons hlt, hv]
  exact hr

theorem low_vsS {τ : List Nat} (xs : List (List UInt8)) (n : Nat) : Low τ (.vs (xs.map .str) n) (.vs (xs.map .str) n) := .vs rfl fun i h _ => by simp; exact .str _
theorem low_vsI {τ : List Nat} (xs : List Int) (n : Nat) : Low τ (.vs (xs.map (.int .i64)) n) (.vs (xs.map (.int .i64)) n) := .vs rfl fun i h _ => by simp; exact .int _ _
theorem Low.tupL {τ : List Nat} {cs cs' : List AV} (h : LowL τ cs cs') : Low τ (.tup cs) (.tup cs') := .tup h.1 h.2
theorem Low.aggL {τ : List Nat} {cs cs' : List AV} (h : LowL τ cs cs') : Low τ (.agg cs) (.agg cs') := .agg h.1 h.2
theorem Low.fnL {τ : List Nat} {f : FuncId} {cs cs' : List AV} (h : LowL τ cs cs') : Low τ (.fn f cs) (.fn f cs') := .fn h.1 h.2

theorem Low.intE {τ : List Nat} {k : IntKind} {n m : Int} (h : n = m) : Low τ (.int k n) (.int k m) := by subst h; exact .int k n
theorem wrap_in {n : Int} (h0 : -9223372036854775808 ≤ n) (h1 : n ≤ 9223372036854775807) : IntKind.i64.wrap n = n := by rw [IntKind.wrap_i64]; omega
theorem wrap_succ {k : Nat} (h : k < 4611686018427387904) : IntKind.i64.wrap ((k : Int) + 1) = ((k + 1 : Nat) : Int) := by rw [wrap_in (by omega) (by omega)]; omega

/-- a call on one object of many -/
theorem CallT.objAt {f : FuncId} {args0 args : List AV} {o : O} {M : Mem O} {r : Nat} {g : O → AV → Prop} {R : AV → Mem O → List Nat → Prop}
    (spec : CallT unf P f args0 [.obj o] fun v M' _ => ∃ o', g o' v ∧ M' = [.obj o']) (hM : M[r]? = some (.obj o)) (ha : LowL [r] args0 args) (hk : ∀ o' v, g o' v → R (renV [r] v) (M.set r (.obj o')) [r]) : CallT unf P f args M R := by
  have hr : r < M.length := (List.getElem?_eq_some_iff.1 hM).1
  refine CallT.frame (τ := [r]) spec ⟨rfl, by simp, fun i hi _ => ?_⟩ ha (fun t ht => by simp at ht; omega) fun v M0' ch ⟨o', hg, hM'⟩ _ => ?_
  · obtain rfl : i = 0 := by simpa using hi
    exact .inr ⟨.obj o, hM, .obj o⟩
  · subst hM'
    have hw : wideM [r] [AO.obj o] M [AO.obj o'] = M.set r (.obj o') := by simp [wideM, setsM, renO]
    rw [hw]
    refine ⟨[r], ?_, .set _ _ _⟩
    simpa [wideT] using hk o' v hg

/-- a call on one object of many, unfolded behind it -/
theorem CallT.objU {f : FuncId} {args0 args : List AV} {o : O} {M : Mem O} {r : Nat} {g : O → AV → Prop} {R : AV → Mem O → List Nat → Prop}
    (spec : CallT unf P f args0 [.obj o] fun v M' _ => ∃ o', g o' v ∧ M' = [.obj o']) (hM : M[r]? = some (.obj o)) (ha : LowL [r] args0 args)
    (hk : ∀ o' v, g o' v → renV [r] v = v ∧ R v (unfoldM unf r o' (M.set r (.obj o'))) (List.range M.length)) : CallT unf P f args M R := by
  have hr : r < M.length := (List.getElem?_eq_some_iff.1 hM).1
  refine CallT.ent (.refl _ _ _) (CallT.objAt (R := fun v M' _ => ∃ o' V, g o' V ∧ v = renV [r] V ∧ M' = M.set r (.obj o')) spec hM ha fun o' v hg => ⟨o', v, hg, rfl, rfl⟩) ?_
  rintro v M1 ch ⟨o', V, hg, rfl, rfl⟩ _
  obtain ⟨h1, h2⟩ := hk o' V hg
  refine ⟨V, _, List.range M.length, ?_, h2, range_ok _ _ ?_⟩
  · rw [h1]
    exact Ent.unfold (by rw [List.getElem?_set_self hr]) (by simp)
  · have : (unfoldM unf r o' (M.set r (.obj o'))).length ≥ (M.set r (.obj o')).length := by
      unfold unfoldM; dsimp only; cases unf o' <;> simp
    simpa using this

/-- a call on one object of many; new objects come behind all -/
theorem CallT.objX {f : FuncId} {args0 args : List AV} {o : O} {M : Mem O} {r : Nat} {R0 R : AV → Mem O → List Nat → Prop}
    (spec : CallT unf P f args0 [.obj o] R0) (hM : M[r]? = some (.obj o)) (ha : LowL [r] args0 args)
    (hk : ∀ v M0' ch, R0 v M0' ch → ∃ o' xs, M0' = .obj o' :: xs ∧ R (renV (wideT [r] M.length xs.length) v) (M.set r (.obj o') ++ xs.map (renO (wideT [r] M.length xs.length))) (List.range M.length)) : CallT unf P f args M R := by
  have hr : r < M.length := (List.getElem?_eq_some_iff.1 hM).1
  refine CallT.frame (τ := [r]) spec ⟨rfl, by simp, fun i hi _ => ?_⟩ ha (fun t ht => by simp at ht; omega) fun v M0' ch hR hch => ?_
  · obtain rfl : i = 0 := by simpa using hi
    exact .inr ⟨.obj o, hM, .obj o⟩
  · obtain ⟨o', xs, rfl, hR2⟩ := hk v M0' ch hR
    have hlx : (AO.obj o' :: xs).length - ([AO.obj o] : Mem O).length = xs.length := by simp
    have hw : wideM [r] [AO.obj o] M (AO.obj o' :: xs) = M.set r (.obj o') ++ xs.map (renO (wideT [r] M.length xs.length)) := by
      simp [wideM, setsM, renO]
    refine ⟨List.range M.length, ?_, ?_⟩
    · rw [hw, hlx]; exact hR2
    · exact range_ok _ _ (by rw [hw]; simp)

/-- an object is folded for a call; it stays folded behind it; new objects come behind all -/
theorem CallT.foldedT {f : FuncId} {args0 args : List AV} {o : O} {M : Mem O} {r : Nat} {cs : List Nat} {R0 R : AV → Mem O → List Nat → Prop}
    (spec : CallT unf P f args0 [.obj o] R0) (hM : LowM (r :: cs) (unf o) M) (hd : ∀ h, (unf o)[0]'h ≠ .dead) (ha : LowL [r] args0 args) (hrl : r < M.length)
    (hk : ∀ v M0' ch, R0 v M0' ch → ∃ o' xs, M0' = .obj o' :: xs ∧ R (renV (wideT [r] M.length xs.length) v) ((killM cs M).set r (.obj o') ++ xs.map (renO (wideT [r] M.length xs.length))) (List.range M.length)) : CallT unf P f args M R := by
  have hrc : r ∉ cs := (List.nodup_cons.1 hM.nodup).1
  have hfl : (foldM (r :: cs) o M).length = M.length := foldM_length _ _ _
  refine CallT.ent (M1 := foldM (r :: cs) o M) (R1 := fun v M' _ => R v M' (List.range M.length) ∧ M.length ≤ M'.length) (Ent.fold (n := M.length) hM hd (Nat.le_refl _)) (CallT.frame (τ := [r]) spec ⟨rfl, by simp, fun i hi _ => ?_⟩ ha (fun t ht => ?_) fun v M0' ch hR hch => ?_) fun v M1' ch ⟨h1, h2⟩ _ => ⟨v, M1', _, .refl _ _ _, h1, range_ok _ _ h2⟩
  · obtain rfl : i = 0 := by simpa using hi
    refine .inr ⟨.obj o, ?_, .obj o⟩
    rw [foldM_eq hrc]
    simp [killM_length, hrl]
  · simp at ht; subst ht; rw [hfl]; exact hrl
  · obtain ⟨o', xs, rfl, hR2⟩ := hk v M0' ch hR
    have hlx : (AO.obj o' :: xs).length - ([AO.obj o] : Mem O).length = xs.length := by simp
    have hw : wideM [r] [AO.obj o] (foldM (r :: cs) o M) (AO.obj o' :: xs) = (killM cs M).set r (.obj o') ++ xs.map (renO (wideT [r] M.length xs.length)) := by
      simp [wideM, setsM, renO, foldM_eq hrc, killM_length]
    refine ⟨List.range (foldM (r :: cs) o M).length, ⟨?_, ?_⟩, ?_⟩
    · rw [hw, hlx, hfl]; exact hR2
    · rw [hw]; simp [killM_length]
    · exact range_ok _ _ (by rw [hw, hfl]; simp [killM_length])

/-- a frame seen weaker, the memory as it is -/
theorem Ent.env {n : Nat} {e e' : Env} {M : Mem O} (he : LowL (List.range M.length) e' e) : Ent unf n e M e' M := by
  intro hn
  refine ⟨hn, he.1, fun κ S w hR => ⟨κ, S, hR, .refl _ _ _ _, fun i h1 h2 cv hv => ?_⟩⟩
  have e : κ.by (List.range M.length) = κ := by
    cases κ with
    | mk a b =>
      unfold Ctx.by
      congr 1
      funext i
      by_cases hi : i < M.length
      · simp [hi]
      · have := hR.dom i (by omega)
        simp only at this
        simp [hi, this]
  have := hv.low (he.2 i h2 h1)
  rwa [e] at this

end Go.Am
end
section
namespace Go.Am
open Go

variable {O : Type} {unf : O → List (AO O)} {P : Program}

/-- a call that only computes a value, and makes memory at the most -/
theorem CallT.of_below {f : FuncId} {args : List AV} {M : Mem O} {v : AV} (hcall : ∀ (args : Array Value) (w : World), (callFunc f args).run P w = .ok (.enter f args) w)
    (h : ∀ κ S w cargs, Rep unf κ M w S → VRelL κ args cargs → ∃ cv, VRel κ v cv ∧ Calls P f cargs w fun e w' => e = .returned cv ∧ RowKit.Below w.heap.size w w') : CallT unf P f args M (fun v' M' ch => v' = v ∧ M' = M ∧ ch = []) := by
  intro κ S w cargs hR hargs
  obtain ⟨cv, hv, hc⟩ := h κ S w cargs hR hargs
  refine .inr ⟨hcall _ _, hc.mono fun e w' ⟨he, hb⟩ => ⟨cv, he, κ, S, v, M, [], ⟨rfl, rfl, rfl⟩, ?_, hv, ?_, .refl _ _⟩⟩
  · exact hR.keep (fun b hb' => hb.block b hb') hb.size
  · exact ⟨fun _ _ => rfl, fun _ _ h => h, fun _ h => .inl h, fun _ _ h => .inl h, fun b hb' _ => hb.block b hb', hb.size, hb.tape, hb.os, hb.output⟩

/-- texts in a slice -/
def Texts (M : Mem O) (a : AV) (xs : List (List UInt8)) : Prop :=
  (a = .nilS ∧ xs = []) ∨ (a = .vs (xs.map .str) xs.length) ∨
  ∃ id off cap ek cs, a = .sl id off xs.length cap ∧ M[id]? = some (.cells ek cs) ∧ off + xs.length ≤ cs.length ∧ ∀ i (h : i < xs.length), cs[off + i]? = some (.str xs[i])

theorem texts_bytes {κ : Ctx} {xs : List (List UInt8)} {f : Nat → Value} (h : ∀ i (h : i < xs.length), VRel κ (.str xs[i]) (f i)) : ∃ bs : List ByteArray, bs.map (·.data.toList) = xs ∧ ∀ i x, bs[i]? = some x → f i = .string x := by
  induction xs generalizing f with
  | nil => exact ⟨[], rfl, by simp⟩
  | cons x xs ih =>
    obtain ⟨bs, h1, h2⟩ := ih (f := fun i => f (i + 1)) fun i hi => h (i + 1) (by simpa using hi)
    have h0 := h 0 (by simp)
    simp only [List.getElem_cons_zero] at h0
    generalize hq : f 0 = c at h0
    cases h0 with
    | str s =>
      refine ⟨s :: bs, by simp [h1], fun i y hy => ?_⟩
      cases i with
      | zero => simp at hy; rw [hq, hy]
      | succ i => exact h2 i y (by simpa using hy)

/-- .. as the model has them -/
theorem Texts.sound {κ : Ctx} {M : Mem O} {w : World} {S : Nat → Prop} (hR : Rep unf κ M w S) {a : AV} {xs : List (List UInt8)} (h : Texts M a xs) {cv : Value} (hv : VRel κ a cv) :
    (xs = [] ∧ ∃ q c, cv = .slice q 0 c) ∨ ∃ bk o c, ∃ bs : List ByteArray, cv = .slice (some ⟨bk, o, none⟩) bs.length c ∧ bs.length ≤ c ∧ bs.map (·.data.toList) = xs ∧ bk < w.heap.size ∧ ∀ (j : Nat) x, bs[j]? = some x → w.cell? ⟨bk, o + j, none⟩ = some (.string x) := by
  rcases h with ⟨rfl, rfl⟩ | rfl | ⟨id, off, cap, ek, cs, rfl, hM, hle, hcs⟩
  · exact .inl ⟨rfl, none, 0, hv.nilS_inv⟩
  · generalize hn : xs.length = n at hv
    generalize hl : xs.map AV.str = l at hv
    cases hv with
    | @vs _ _ b off c A f h0 h1 h2 h3 =>
      refine .inr ?_
      subst hl
      obtain ⟨_, t, fz, hA, ho⟩ := hR.imm _ _ h1
      obtain ⟨bs, g1, g2⟩ := texts_bytes (xs := xs) (f := f) fun i hi => by have := h3 i (by simpa using hi); rw [List.getElem_map] at this; exact this
      have hbl : bs.length = xs.length := by rw [← g1]; simp
      refine ⟨b, off, c, bs, by rw [hbl, hn], by omega, g1, lt_of_heap hA, fun j x hx => ?_⟩
      have hj : j < bs.length := (List.getElem?_eq_some_iff.1 hx).1
      rw [cell_of hA, (h2 j (by simp; omega)).1, g2 j x hx]
    | vs0 =>
      have : xs = [] := List.length_eq_zero_iff.1 hn
      exact .inl ⟨this, _, _, rfl⟩
  · obtain ⟨L, A, t, fz, hL, hek, hSL, hA, hp, hc, hroom⟩ := hR.cells hM
    have key : ∀ c (o : Nat), (0 < xs.length → o = L.base + off) → xs.length ≤ c → cv = .slice (some ⟨L.blk, o, none⟩) xs.length c → ∃ bk o c, ∃ bs : List ByteArray, cv = .slice (some ⟨bk, o, none⟩) bs.length c ∧ bs.length ≤ c ∧ bs.map (·.data.toList) = xs ∧ bk < w.heap.size ∧ ∀ (j : Nat) x, bs[j]? = some x → w.cell? ⟨bk, o + j, none⟩ = some (.string x) := by
      intro c o ho hc' hcv
      obtain ⟨f, hf⟩ := exists_fun hc
      obtain ⟨bs, g1, g2⟩ := texts_bytes (κ := κ) (xs := xs) (f := fun i => f (off + i)) fun i hi => by
        have := (hf (off + i) (by omega)).2
        have e := hcs i hi
        rw [List.getElem?_eq_getElem (by omega)] at e
        rw [Option.some.inj e] at this
        exact this
      have hbl : bs.length = xs.length := by rw [← g1]; simp
      refine ⟨L.blk, o, c, bs, by rw [hbl]; exact hcv, by omega, g1, lt_of_heap hA, fun j x hx => ?_⟩
      have hj : j < bs.length := (List.getElem?_eq_some_iff.1 hx).1
      rw [cell_of hA, ho (by omega), Nat.add_assoc, (hf (off + j) (by omega)).1, g2 j x hx]
    generalize hn : xs.length = n at hv
    cases hv with
    | sl h1 h2 h3 =>
      rw [hL] at h2; cases h2
      refine .inr (key _ _ (fun _ => rfl) ?_ (by rw [hn])); omega
    | slz h2 h3 =>
      exact .inl ⟨List.length_eq_zero_iff.1 hn, _, _, rfl⟩
    | slr h1 h2 h3 h4 h5 =>
      rw [hL] at h2; cases h2
      refine .inr (key _ _ (fun _ => rfl) ?_ (by rw [hn])); omega

end Go.Am
end
section
namespace Go.Am
open Go

variable {O : Type} {unf : O → List (AO O)} {P : Program}

/-- a slice (places of n cells) is shown to a call as a row that nobody writes -/
inductive Lend (M : Mem O) : AV → AV → Prop
  | flat {a} : Flat a → Lend M a a
  | nil : Lend M (.vs [] 0) .nilS
  | vs {cs n} : (∀ v, v ∈ cs → Flat v) → Lend M (.vs cs n) (.vs cs n)
  | sl {id off len cap ek z cs l} : M[id]? = some (.cells ek cs) → l.length = len * z → (∀ v, v ∈ l → Flat v) → (∀ i (h : i < l.length), cs[off + i]? = some l[i]) → Lend M (.vs l len) (.sl id off len cap)

inductive LendL (M : Mem O) : List AV → List AV → Prop
  | nil : LendL M [] []
  | cons {a0 a l0 l} : Lend M a0 a → LendL M l0 l → LendL M (a0 :: l0) (a :: l)

theorem Flat.rel {κ κ' : Ctx} {v : AV} (h : Flat v) {cv : Value} (hv : VRel κ v cv) : VRel κ' v cv := by
  cases h <;> cases hv <;> constructor

/-- values that hang on no memory -/
inductive Free : AV → Prop
  | flat {v} : Flat v → Free v
  | tup {cs} : (∀ v, v ∈ cs → Free v) → Free (.tup cs)
  | agg {cs} : (∀ v, v ∈ cs → Free v) → Free (.agg cs)

theorem Free.rel {κ κ' : Ctx} {v : AV} (h : Free v) : ∀ {cv : Value}, VRel κ v cv → VRel κ' v cv := by
  induction h with
  | flat h => exact fun hv => h.rel hv
  | tup h ih =>
    intro cv hv
    cases hv with
    | tup h1 h2 => exact .tup h1 fun i a b => ih _ (List.getElem_mem a) (h2 i a b)
  | agg h ih =>
    intro cv hv
    cases hv with
    | agg h1 h3 h2 => exact .agg h1 h3 fun i a b => ih _ (List.getElem_mem a) (h2 i a b)

theorem Free.tupL {cs : List AV} (h : ∀ v, v ∈ cs → Flat v) : Free (.tup cs) := .tup fun v hv => .flat (h v hv)

/-- all that lies in a world, to be read -/
noncomputable def allImm (w : World) : Ctx := ⟨fun _ => none, fun b => match w.heap[b]? with
  | some (.cells A _ _) => some A
  | _ => none⟩

theorem allImm_of {w : World} {b : Nat} {A : Array Value} {t : TypeId} {fz : Nat × Nat} (h : w.heap[b]? = some (.cells A t fz)) : (allImm w).imm b = some A := by
  simp only [allImm, h]

theorem allImm_rep {κ : Ctx} {M : Mem O} {w : World} {S : Nat → Prop} (hR : Rep unf κ M w S) : Rep unf (allImm w) [] w (fun _ => False) where
  dom _ _ := rfl
  own := ⟨fun _ _ => False, fun i h => by simp at h, fun _ _ _ _ h => h.elim, fun _ _ h => h⟩
  lt _ h := h.elim
  imm b A h := by
    refine ⟨id, ?_⟩
    simp only [allImm] at h
    split at h
    · rename_i A' t fz hA
      cases h; exact ⟨t, fz, hA, trivial⟩
    · cases h
  glob b p hb := by
    obtain ⟨A, h1, h2⟩ := hR.glob b p hb
    obtain ⟨_, t, fz, h3, h4⟩ := hR.imm b A h1
    exact ⟨A, allImm_of h3, h2⟩

theorem Lend.sound {κ : Ctx} {M : Mem O} {w : World} {S : Nat → Prop} (hR : Rep unf κ M w S) {a0 a : AV} (h : Lend M a0 a) {cv : Value} (hv : VRel κ a cv) : VRel (allImm w) a0 cv := by
  cases h with
  | flat h => exact h.rel hv
  | nil => rw [hv.nilS_inv]; exact .vs0
  | vs h =>
    cases hv with
    | vs f h0 h1 h2 h3 =>
      obtain ⟨_, t, fz, g1, g2⟩ := hR.imm _ _ h1
      exact .vs f h0 (allImm_of g1) h2 fun i hi => (h _ (List.getElem_mem hi)).rel (h3 i hi)
    | vs0 => exact .vs0
  | @sl id off len cap ek z cs l hM hl hf hcs =>
    obtain ⟨L, A, t, fz, hL, hek, hSL, hA, hp, hc, hroom⟩ := hR.cells hM
    obtain ⟨f, hf'⟩ := exists_fun hc
    have key : ∀ o c, (0 < l.length → o = L.base + off) → len ≤ c → cv = .slice (some ⟨L.blk, o, none⟩) len c → VRel (allImm w) (.vs l len) cv := by
      intro o c ho hc' hcv
      subst hcv
      refine .vs (fun i => f (off + i)) hc' (allImm_of hA) (fun i hi => ?_) fun i hi => ?_
      · obtain ⟨hlt, _⟩ := List.getElem?_eq_some_iff.1 (hcs i hi)
        rw [ho (by omega), Nat.add_assoc]; exact ⟨(hf' (off + i) hlt).1, hp.1 _ (Array.mem_of_getElem? (hf' (off + i) hlt).1)⟩
      · obtain ⟨hlt, he⟩ := List.getElem?_eq_some_iff.1 (hcs i hi)
        have := (hf' (off + i) hlt).2
        rw [he] at this
        exact (hf _ (List.getElem_mem hi)).rel this
    cases hv with
    | sl h1 h2 h3 => rw [hL] at h2; cases h2; exact key _ _ (fun _ => rfl) h1 rfl
    | slz h2 h3 => rw [hL] at h2; cases h2; exact key _ _ (fun h => by simp at hl; simp [hl] at h) (Nat.le_refl _) rfl
    | slr h1 h2 h3 h4 h5 => rw [hL] at h2; cases h2; exact key _ _ (fun _ => rfl) (by omega) rfl

theorem LendL.sound {κ : Ctx} {M : Mem O} {w : World} {S : Nat → Prop} (hR : Rep unf κ M w S) {a0 a : List AV} (h : LendL M a0 a) : ∀ {cvs : Array Value}, VRelL κ a cvs → VRelL (allImm w) a0 cvs := by
  have key : a0.length = a.length ∧ ∀ i (h1 : i < a0.length) (h2 : i < a.length), Lend M a0[i] a[i] := by
    induction h with
    | nil => exact ⟨rfl, fun i h => by simp at h⟩
    | cons h1 _ ih =>
      refine ⟨by simp [ih.1], fun i h3 h4 => ?_⟩
      cases i with
      | zero => exact h1
      | succ i => exact ih.2 i (by simpa using h3) (by simpa using h4)
  intro cvs hv
  refine ⟨key.1.trans hv.1, fun i h1 h2 => (key.2 i h1 (by rw [← key.1]; exact h1)).sound hR (hv.2 i _ h2)⟩

/-- a call that only reads, and hands back a flat value, does so in every memory -/
theorem CallT.lend {f : FuncId} {args0 args : List AV} {M : Mem O} {p : AV → Prop} (spec : CallT unf P f args0 [] fun v M' _ => p v ∧ M' = []) (hp : ∀ v, p v → Free v) (ha : LendL M args0 args) : CallT unf P f args M fun v M' ch => p v ∧ M' = M ∧ ch = [] := by
  intro κ S w cargs hR hargs
  refine (spec _ _ w cargs (allImm_rep hR) (ha.sound hR hargs)).mono ?_
  rintro cv w' ⟨κ', S', v, M', ch, ⟨hpv, rfl⟩, hR', hv, hP, _⟩
  have hs : ∀ b, b < w.heap.size → w'.heap[b]? = w.heap[b]? := fun b hb => hP.same b hb id
  refine ⟨κ, S, v, M, [], ⟨hpv, rfl, rfl⟩, hR.keep hs hP.grow, (hp v hpv).rel hv, ⟨fun _ _ => rfl, fun _ _ h => h, fun _ h => .inl h, fun _ _ h => .inl h, fun b hb _ => hs b hb, hP.grow, hP.rest⟩, .refl _ _⟩

end Go.Am
end
section
namespace Go.Am
open Go Go.Proofs

variable {O : Type} {unf : O → List (AO O)} {P : Program}

theorem sub_full {cs : List AV} {n : Nat} (h : cs.length = n) : sub cs 0 n = cs := by subst h; exact sub_all _

/-- a row of its own grows -/
theorem push_some {el : TypeId} {inf : TypeInfo} {n len z id : Nat} {new cs : List AV} {M : Mem O} {K : AV → Mem O → Prop} (hsz : inf.size = z) (hby : 0 < inf.bytes) (hz : ∀ R : Prop, R → zeroK P (fun l => payK (decide (l.length = inf.size)) R) el)
    (hM : M[id]? = some (.cells (some z) cs)) (hcs : cs.length = len * z) (hn : 0 < n) (hroom : (len + n) * inf.bytes ≤ 140737488355328) (hk : K (.sl M.length 0 (len + n) (len + n)) (M.set id .dead ++ [.cells (some z) (cs ++ new)])) : pushA P el inf n new (.sl id 0 len len) M K := by
  have hid := (List.getElem?_eq_some_iff.1 hM).1
  unfold pushA
  refine testK_false (by simp; omega) ?_
  refine testK_true (by simp; omega) (hz _ ?_)
  refine getK_iff.2 ⟨_, hM, ?_⟩
  refine testK_true (by simp [hsz]; omega) ?_
  refine setK_iff.2 ⟨hid, ?_⟩
  refine appK_iff.2 ?_
  rw [hsz, sub_full hcs]
  simpa using hk

/-- a row begins -/
theorem push_none {el : TypeId} {inf : TypeInfo} {n z : Nat} {new : List AV} {M : Mem O} {K : AV → Mem O → Prop} (hsz : inf.size = z) (hby : 0 < inf.bytes) (hz : ∀ R : Prop, R → zeroK P (fun l => payK (decide (l.length = inf.size)) R) el)
    (hn : 0 < n) (hroom : n * inf.bytes ≤ 140737488355328) (hk : K (.sl M.length 0 n n) (M ++ [.cells (some z) new])) : pushA P el inf n new .nilS M K := by
  unfold pushA
  refine testK_false (by simp; omega) ?_
  refine testK_true (by simp; omega) (hz _ ?_)
  refine appK_iff.2 ?_
  rw [hsz]
  exact hk

/-- bytes that grow from nothing -/
def accSl (i : Nat) : Option (List UInt8) → AV
  | none => .nilS
  | some s => .sl i 0 s.length s.length
def accRow : Option (List UInt8) → AO O
  | none => .dead
  | some s => .cells (some 1) (encB s)

theorem low_acc {τ : List Nat} {i j : Nat} (h : τ[i]? = some j) (s : Option (List UInt8)) : Low τ (accSl i s) (accSl j s) := by
  cases s
  · exact .nilS
  · exact .sl h
theorem part_acc {τ ts : List Nat} {M : Mem O} {os : Mem O} {t : Nat} {s : Option (List UInt8)} (h : s = none ∨ M[t]? = some (accRow s)) (hp : Parts τ M ts os) : Parts τ M (t :: ts) (accRow s :: os) := by
  cases s with
  | none => exact .dead hp
  | some s => exact .some (h.resolve_left (by simp)) (.cells (.flat (flat_encB s))) hp
/-- the bytes as a text -/
theorem show_acc {M : Mem O} {id : Nat} {acc : Option (List UInt8)} {R : List AV → Prop} (hM : M[id]? = some (accRow acc)) (h : R (encB (acc.getD []))) : showK M 1 R (accSl id acc) := by
  cases acc with
  | none => exact h
  | some s =>
    refine getK_iff.2 ⟨_, hM, ?_⟩
    refine testK_true (by simp [encB_length]) ?_
    rw [Nat.mul_one, sub_encB]; exact h

theorem push_bytes {el : TypeId} {inf : TypeInfo} {n id : Nat} {acc : Option (List UInt8)} {bs : List UInt8} {new : List AV} {M : Mem O} {K : AV → Mem O → Prop} (hsz : inf.size = 1) (hby : inf.bytes = 1) (hz : ∀ R : Prop, R → zeroK P (fun l => payK (decide (l.length = inf.size)) R) el)
    (hM : M[id]? = some (accRow acc)) (hnew : new = encB bs) (hn : n = bs.length) (h0 : bs ≠ []) (hroom : (acc.getD []).length + bs.length ≤ 1000000000)
    (hk : K (accSl M.length (some (acc.getD [] ++ bs))) (M.set id .dead ++ [accRow (some (acc.getD [] ++ bs))])) : pushA P el inf n new (accSl id acc) M K := by
  subst hnew hn
  have hb : 0 < bs.length := List.length_pos_iff.2 h0
  cases acc with
  | none =>
    refine push_none hsz (by omega) hz hb (by simp at hroom; rw [hby]; omega) ?_
    have : M.set id .dead = M := by
      obtain ⟨h1, h2⟩ := List.getElem?_eq_some_iff.1 hM
      rw [← show M[id] = AO.dead from h2]; exact List.set_getElem_self h1
    rw [this] at hk
    exact hk
  | some a =>
    refine push_some hsz (by omega) hz hM (by rw [encB_length]; omega) hb (by simp at hroom; rw [hby]; omega) ?_
    simpa [accSl, accRow, encB_app] using hk

/-- nothing is put behind bytes -/
theorem push_empty {el : TypeId} {inf : TypeInfo} {id : Nat} {acc : Option (List UInt8)} {new : List AV} {M : Mem O} {K : AV → Mem O → Prop} (hM : M[id]? = some (accRow acc)) (hnew : new = []) (hsz : inf.size = 1)
    (hk : K (accSl id acc) M) : pushA P el inf 0 new (accSl id acc) M K := by
  subst hnew
  obtain ⟨h1, h2⟩ := List.getElem?_eq_some_iff.1 hM
  cases acc with
  | none =>
    unfold pushA
    exact testK_true rfl hk
  | some a =>
    unfold pushA
    refine testK_true (by simp) (getK_iff.2 ⟨_, hM, ?_⟩)
    refine putK_iff.2 ⟨by simp [hsz, encB_length], ?_⟩
    simp only [List.nil_append, List.length_nil, Nat.add_zero, List.take_append_drop]
    refine setK_iff.2 ⟨h1, ?_⟩
    have : M.set id (.cells (some 1) (encB a)) = M := by
      rw [← show M[id] = AO.cells (some 1) (encB a) from h2]; exact List.set_getElem_self h1
    rw [this]
    exact hk

set_option maxRecDepth 100000 in
theorem zero_uint8 (R : Prop) (h : R) (hlt : 5 < Tryd.prog.types.size) : zeroK Tryd.prog (fun l => payK (decide (l.length = (Tryd.prog.types[5]'hlt).size)) R) 5 := by
  rw [sz5]
  exact h
end Go.Am
end
section
set_option linter.unusedSimpArgs false
namespace Go.Am
open Go Go.Proofs

def resSl (i : Nat) : Option Tok → AV
  | none => .nilS
  | some _ => .sl i 0 1 1
def resRow : Option Tok → AO Ob
  | none => .dead
  | some t => .cells none t.cells

def Ref.command (r : Ref) (c : UInt8) : Ref × Option Tok :=
  if c = 255 then ({ r with cmd := none }, some ⟨0, 0, 0, [c]⟩)
  else if 250 ≤ c.toNat then ({ r with cmd := some [255, c] }, none)
  else ({ r with cmd := none }, some ⟨1, c.toNat, 0, []⟩)
def Ref.sub (r : Ref) (c : UInt8) : Ref × Option Tok :=
  if r.iac = false ∧ c = 255 then ({ r with iac := true }, none)
  else if r.iac = true ∧ c ≠ 255 then
    if c ≠ 240 then ({ r with inn := false, body := none, iac := false, long := false } : Ref).command c
    else ({ r with inn := false, body := none, iac := false, long := false }, if r.long then none else some ⟨3, 0, r.opt, r.body.getD []⟩)
  else if 40 ≤ (r.body.getD []).length then ({ r with iac := false, long := true }, none)
  else ({ r with iac := false, body := some (r.body.getD [] ++ [c]) }, none)
def Ref.feed (r : Ref) (c : UInt8) : Ref × Option Tok :=
  if r.inn then r.sub c
  else match r.cmd with
    | some [_, x] => if x = 250 then ({ r with cmd := none, inn := true, opt := c.toNat, body := none, long := false, iac := false }, none) else ({ r with cmd := none }, some ⟨2, x.toNat, c.toNat, []⟩)
    | some [_] => r.command c
    | _ => if c = 255 then ({ r with cr := false, cmd := some [c] }, none)
      else if r.cr = true ∧ c = 0 ∧ r.bin = false then ({ r with cr := false }, none)
      else ({ r with cr := c == 13 }, some ⟨0, 0, 0, [c]⟩)

theorem low_ref {τ : List Nat} {r : Ref} {d1 d2 d1' d2' : AV} (h1 : Low τ d1 d1') (h2 : Low τ d2 d2') : LowL τ (refC r d1 d2) (refC r d1' d2') :=
  .cons (.bool _) (.cons (.bool _) (.cons h1 (.cons (.bool _) (.cons (.int _ _) (.cons h2 (.cons (.bool _) (.cons (.bool _) (.nil _))))))))
theorem part_ex {τ ts : List Nat} {M : Mem Ob} {os : Mem Ob} {t : Nat} {s : Option (List UInt8)} (h : s = none ∨ M[t]? = some (exRow s)) (hp : Parts τ M ts os) : Parts τ M (t :: ts) (exRow s :: os) := by
  cases s with
  | none => exact .dead hp
  | some s => exact .some (h.resolve_left (by simp)) (.cells (.flat (flat_encB s))) hp
theorem low_res {τ : List Nat} {i j : Nat} (h : τ[i]? = some j) (s : Option Tok) : Low τ (resSl i s) (resSl j s) := by
  cases s
  · exact .nilS
  · exact .sl h
theorem flat_tok (t : Tok) : ∀ v, v ∈ t.cells → Flat v := by
  intro v hv
  simp [Tok.cells] at hv
  rcases hv with rfl | rfl | rfl | rfl <;> constructor
theorem part_res {τ ts : List Nat} {M : Mem Ob} {os : Mem Ob} {t : Nat} {s : Option Tok} (h : s = none ∨ M[t]? = some (resRow s)) (hp : Parts τ M ts os) : Parts τ M (t :: ts) (resRow s :: os) := by
  cases s with
  | none => exact .dead hp
  | some s => exact .some (h.resolve_left (by simp)) (.cells (.flat (flat_tok s))) hp

/-- the reader folded again, with what is told -/
theorem fin_ref {r' : Ref} {t : Option Tok} {M0 : Mem Ob} {R : AV → Mem Ob → List Nat → Prop} {M' : Mem Ob} {a b c : Nat} {d1 d2 v : AV} (hn : [0, a, b].Nodup) (hc : c ≠ 0 ∧ c ≠ a ∧ c ≠ b) (h0 : M'[0]? = some (.cells none (refC r' d1 d2)))
    (g1 : Low [0, a, b] (bySl 1 r'.cmd) d1) (g2 : Low [0, a, b] (bySl 2 r'.body) d2) (h1 : r'.cmd = none ∨ M'[a]? = some (exRow r'.cmd)) (h2 : r'.body = none ∨ M'[b]? = some (byRow r'.body))
    (hv : v = resSl c t) (h3 : t = none ∨ M'[c]? = some (resRow t)) (hM0 : ∃ o, M0 = [o]) (hR : R (resSl 1 t) [.obj (.ref r'), resRow t] [0]) : fin unfW 1 M0 R v M' := by
  obtain ⟨o, rfl⟩ := hM0
  subst hv
  have hl : 0 < M'.length := (List.getElem?_eq_some_iff.1 h0).1
  refine fin.mk _ _ [0] (.trans (Ent.fold (o := Ob.ref r') (r := 0) (cs := [a, b]) (Parts.low hn (.some h0 (.cells (low_ref g1 g2)) (part_ex h1 (part_by h2 .nil)))) (by simp [unfW]) hl)
    (.low (τ := [0, c]) (Parts.low (by simp; omega) (.some ?_ (.obj _) (part_res ?_ .nil))) (.cons (low_res rfl _) (.nil _)) (by simp) (fun i hi => by simp [show i = 0 by omega]))) hR ⟨by simp, fun i hi hn => by simp at hi hn; omega⟩
  · rw [List.getElem?_eq_getElem (by rw [foldM_length]; exact hl), foldM_get _ _ _ _ hl]; rfl
  · refine h3.imp id fun h => ?_
    obtain ⟨hlt, he⟩ := List.getElem?_eq_some_iff.1 h
    rw [List.getElem?_eq_getElem (by rw [foldM_length]; exact hlt), foldM_get _ _ _ _ hlt, if_neg (by simp; omega), if_neg (by simp; omega), he]

/-- .. that is folded already -/
theorem fin_refT {r' : Ref} {t : Option Tok} {M0 : Mem Ob} {R : AV → Mem Ob → List Nat → Prop} {M' : Mem Ob} {c : Nat} {v : AV} (hc : c ≠ 0) (h0 : M'[0]? = some (.obj (.ref r')))
    (hv : v = resSl c t) (h3 : t = none ∨ M'[c]? = some (resRow t)) (hM0 : ∃ o, M0 = [o]) (hR : R (resSl 1 t) [.obj (.ref r'), resRow t] [0]) : fin unfW 1 M0 R v M' := by
  obtain ⟨o, rfl⟩ := hM0
  subst hv
  exact fin.mk _ _ [0] (.low (τ := [0, c]) (Parts.low (by simp; omega) (.some h0 (.obj _) (part_res h3 .nil))) (.cons (low_res rfl _) (.nil _)) (by simp) (fun i hi => by simp [show i = 0 by omega])) hR ⟨by simp, fun i hi hn => by simp at hi hn; omega⟩

theorem ren_resRow (τ : List Nat) (s : Option Tok) : renO τ (resRow s) = resRow s := by
  cases s
  · rfl
  · simp [resRow, renO, renVs_flat (flat_tok _)]
theorem ren_resSl (τ : List Nat) (i : Nat) (s : Option Tok) : renV τ (resSl i s) = resSl (τ.getD i 0) s := by cases s <;> rfl

/-- a call, the last one, on a reader that is unfolded -/
theorem callT_ref {f : FuncId} {args0 args : List AV} {r r' : Ref} {t : Option Tok} {M : Mem Ob} {R : AV → Mem Ob → List Nat → Prop} {a b : Nat} {d1 d2 : AV}
    (spec : T f args0 [.obj (.ref r)] fun v M' _ => v = resSl 1 t ∧ M' = [.obj (.ref r'), resRow t])
    (hn : [0, a, b].Nodup) (h0 : M[0]? = some (.cells none (refC r d1 d2))) (g1 : Low [0, a, b] (bySl 1 r.cmd) d1) (g2 : Low [0, a, b] (bySl 2 r.body) d2)
    (h1 : r.cmd = none ∨ M[a]? = some (exRow r.cmd)) (h2 : r.body = none ∨ M[b]? = some (byRow r.body)) (ha : LowL [0] args0 args)
    (hk : R (resSl M.length t) ((killM [a, b] M).set 0 (.obj (.ref r')) ++ [resRow t]) (List.range M.length)) : T f args M R := by
  have hlt : 0 < M.length := (List.getElem?_eq_some_iff.1 h0).1
  refine CallT.foldedT spec (r := 0) (cs := [a, b]) (Parts.low hn (.some h0 (.cells (low_ref g1 g2)) (part_ex h1 (part_by h2 .nil)))) (by simp [unfW]) ha hlt fun v M0' ch ⟨hv, hM⟩ => ?_
  subst hv hM
  refine ⟨.ref r', [resRow t], rfl, ?_⟩
  simpa [ren_resRow, ren_resSl, wideT] using hk

set_option maxRecDepth 100000
attribute [local irreducible] CallT Ent pushA

theorem data0_ref (c : UInt8) : T 47 [.int .u8 c.toNat] [] (fun v M' _ => v = .sl 0 0 1 1 ∧ M' = [.cells none (Tok.cells ⟨0, 0, 0, [c]⟩)]) := by
  refine CallT.by_body Tryd.func47 rfl Tryd.call47 rfl (.refl _ _ _) ?_
  ((conv => whnf); (repeat ((with_reducible refine Rest.mk ?_); (conv => whnf))))
  refine testK_true (all_encB [c]) ?_
  rw [show decB (sub [AV.int .u8 (c.toNat : Int)] 0 (1 * 1)) = [c] from decB_encB [c]]
  ((conv => whnf); (repeat ((with_reducible refine Rest.mk ?_); (conv => whnf))))
  exact fin.mk _ _ [] (.low (τ := [1]) (Parts.low (by decide) (.some rfl (.cells (.flat (flat_tok ⟨0, 0, 0, [c]⟩))) .nil)) (.cons (.sl rfl) (.nil _)) (Nat.zero_le _) (fun i hi => by simp at hi)) ⟨rfl, rfl⟩ ⟨Nat.zero_le _, fun i hi => by simp at hi⟩

theorem data_ok (c : UInt8) (M : Mem Ob) : T 47 [.int .u8 c.toNat] M (fun v M' ch => v = .sl M.length 0 1 1 ∧ M' = M ++ [.cells none (Tok.cells ⟨0, 0, 0, [c]⟩)] ∧ ch = []) := by
  refine CallT.frame (τ := []) (data0_ref c) ⟨rfl, .nil, fun i h => by simp at h⟩ (.cons (.int _ _) (.nil _)) (by simp) fun v M0' ch ⟨h1, h2⟩ _ => ?_
  subst h1 h2
  have hw : wideM [] ([] : Mem Ob) M [.cells none (Tok.cells ⟨0, 0, 0, [c]⟩)] = M ++ [.cells none (Tok.cells ⟨0, 0, 0, [c]⟩)] := by
    simp [wideM, setsM, renO_cells, renVs_flat (flat_tok _)]
  rw [hw]
  exact ⟨[], ⟨by simp [wideT, renV], rfl, rfl⟩, .push _ _ _⟩

theorem u8_eq (c : UInt8) (n : UInt8) : decide ((c.toNat : Int) = (n.toNat : Int)) = decide (c = n) := by
  rw [byte_eq]; by_cases h : c = n <;> simp [h]

theorem command_ok (r : Ref) (c : UInt8) : T 48 [.ptr 0 0, .int .u8 c.toNat] [.obj (.ref r)] (fun v M' _ => v = resSl 1 (r.command c).2 ∧ M' = [.obj (.ref (r.command c).1), resRow (r.command c).2]) := by
  obtain ⟨bin, cr, cmd, inn, opt, body, long, iac⟩ := r
  refine CallT.by_body Tryd.func48 rfl Tryd.call48 rfl (Ent.open1 (by simp [unfW])) ?_
  ((conv => whnf); (repeat ((with_reducible refine Rest.mk ?_); (conv => whnf))))
  rw [show decide ((c.toNat : Int) = 255) = decide (c = 255) from u8_eq c 255]
  refine testK_split (fun h => ?_) (fun h => ?_) <;> ((conv => whnf); (repeat ((with_reducible refine Rest.mk ?_); (conv => whnf))))
  · simp only [decide_eq_true_eq] at h
    refine (data_ok c _).mono ?_
    rintro v M' ch ⟨rfl, rfl, rfl⟩ _
    ((conv => whnf); (repeat ((with_reducible refine Rest.mk ?_); (conv => whnf))))
    exact fin_ref (r' := ⟨bin, cr, none, inn, opt, body, long, iac⟩) (t := some ⟨0, 0, 0, [c]⟩) (a := 1) (b := 2) (c := 3) (by decide) (by decide) rfl .nilS (low_bySl rfl _) (.inl rfl) (.inr rfl) rfl (.inr rfl) ⟨_, rfl⟩ (by simp [Ref.command, h])
  simp only [decide_eq_false_iff_not] at h
  refine testK_split (fun h2 => ?_) (fun h2 => ?_) <;> ((conv => whnf); (repeat ((with_reducible refine Rest.mk ?_); (conv => whnf))))
  · have h2 : 250 ≤ c.toNat := by simp at h2; omega
    exact fin_ref (r' := ⟨bin, cr, some [255, c], inn, opt, body, long, iac⟩) (t := none) (a := 3) (b := 2) (c := 9) (by decide) (by decide) rfl (.sl rfl) (low_bySl rfl _) (.inr rfl) (.inr rfl) rfl (.inl rfl) ⟨_, rfl⟩ (by simp [Ref.command, h, h2])
  · have h2 : ¬250 ≤ c.toNat := by simp at h2; omega
    rw [wrap_byte]
    exact fin_ref (r' := ⟨bin, cr, none, inn, opt, body, long, iac⟩) (t := some ⟨1, c.toNat, 0, []⟩) (a := 1) (b := 2) (c := 3) (by decide) (by decide) rfl .nilS (low_bySl rfl _) (.inl rfl) (.inr rfl) rfl (.inr rfl) ⟨_, rfl⟩ (by simp [Ref.command, h, h2])

theorem two_args (c : UInt8) : LowL [0] [.ptr 0 0, .int .u8 c.toNat] [.ptr 0 0, .int .u8 c.toNat] := .cons (.ptr rfl) (.cons (.int _ _) (.nil _))

theorem rsub_ok (r : Ref) (c : UInt8) : T 46 [.ptr 0 0, .int .u8 c.toNat] [.obj (.ref r)] (fun v M' _ => v = resSl 1 (r.sub c).2 ∧ M' = [.obj (.ref (r.sub c).1), resRow (r.sub c).2]) := by
  have hcmd := fun r => command_ok r c
  obtain ⟨bin, cr, cmd, inn, opt, body, long, iac⟩ := r
  refine CallT.by_body Tryd.func46 rfl Tryd.call46 rfl (Ent.open1 (by simp [unfW])) ?_
  cases iac
  · ((conv => whnf); (repeat ((with_reducible refine Rest.mk ?_); (conv => whnf))))
    rw [show decide ((c.toNat : Int) = 255) = decide (c = 255) from u8_eq c 255]
    refine testK_split (fun h => ?_) (fun h => ?_) <;> ((conv => whnf); (repeat ((with_reducible refine Rest.mk ?_); (conv => whnf))))
    · simp only [decide_eq_true_eq] at h
      exact fin_ref (r' := ⟨bin, cr, cmd, inn, opt, body, long, true⟩) (t := none) (a := 1) (b := 2) (c := 9) (by decide) (by decide) rfl (low_bySl rfl _) (low_bySl rfl _) (.inr rfl) (.inr rfl) rfl (.inl rfl) ⟨_, rfl⟩ (by simp [Ref.sub, h])
    · simp only [decide_eq_false_iff_not] at h
      rcases body with _ | s <;> ((conv => whnf); (repeat ((with_reducible refine Rest.mk ?_); (conv => whnf))))
      · refine push_bytes (acc := none) (id := 2) (sz5 _) (by5 _) (fun R h => zero_uint8 R h _) (bs := [c]) rfl (by simp [sz5, sub, encB]) rfl (by simp) (by simp) ?_
        ((conv => whnf); (repeat ((with_reducible refine Rest.mk ?_); (conv => whnf))))
        exact fin_ref (r' := ⟨bin, cr, cmd, inn, opt, some [c], long, false⟩) (t := none) (a := 1) (b := 4) (c := 9) (by decide) (by decide) rfl (low_bySl rfl _) (.sl rfl) (.inr rfl) (.inr rfl) rfl (.inl rfl) ⟨_, rfl⟩ (by simp [Ref.sub, h])
      · refine testK_split (fun h40 => ?_) (fun h40 => ?_) <;> ((conv => whnf); (repeat ((with_reducible refine Rest.mk ?_); (conv => whnf))))
        · have h40 : 40 ≤ s.length := by simp at h40; omega
          exact fin_ref (r' := ⟨bin, cr, cmd, inn, opt, some s, true, false⟩) (t := none) (a := 1) (b := 2) (c := 9) (by decide) (by decide) rfl (low_bySl rfl _) (low_bySl rfl _) (.inr rfl) (.inr rfl) rfl (.inl rfl) ⟨_, rfl⟩ (by simp [Ref.sub, h, h40])
        · have h40 : ¬40 ≤ s.length := by simp at h40; omega
          refine push_bytes (acc := some s) (id := 2) (sz5 _) (by5 _) (fun R h => zero_uint8 R h _) (bs := [c]) rfl (by simp [sz5, sub, encB]) rfl (by simp) (by simp; omega) ?_
          ((conv => whnf); (repeat ((with_reducible refine Rest.mk ?_); (conv => whnf))))
          exact fin_ref (r' := ⟨bin, cr, cmd, inn, opt, some (s ++ [c]), long, false⟩) (t := none) (a := 1) (b := 4) (c := 9) (by decide) (by decide) rfl (low_bySl rfl _) (.sl rfl) (.inr rfl) (.inr rfl) rfl (.inl rfl) ⟨_, rfl⟩ (by simp [Ref.sub, h, h40])
  · ((conv => whnf); (repeat ((with_reducible refine Rest.mk ?_); (conv => whnf))))
    rw [show decide ((c.toNat : Int) = 255) = decide (c = 255) from u8_eq c 255]
    refine testK_split (fun h => ?_) (fun h => ?_) <;> ((conv => whnf); (repeat ((with_reducible refine Rest.mk ?_); (conv => whnf))))
    · simp at h
      refine testK_true (b := drawOk _ _ _) (by kernel_rfl) ?_
      rcases body with _ | s <;> ((conv => whnf); (repeat ((with_reducible refine Rest.mk ?_); (conv => whnf))))
      · rw [show decide ((c.toNat : Int) = 240) = decide (c = 240) from u8_eq c 240]
        refine testK_split (fun h2 => ?_) (fun h2 => ?_) <;> ((conv => whnf); (repeat ((with_reducible refine Rest.mk ?_); (conv => whnf))))
        · have h2 : c ≠ 240 := by simpa using h2
          refine callT_ref (r := ⟨bin, cr, cmd, false, opt, none, false, false⟩) (a := 1) (b := 2) (hcmd _) (by decide) rfl (low_bySl rfl _) .nilS (.inr rfl) (.inl rfl) (two_args c) ?_
          ((conv => whnf); (repeat ((with_reducible refine Rest.mk ?_); (conv => whnf))))
          exact fin_refT (c := 4) (by decide) rfl rfl (.inr rfl) ⟨_, rfl⟩ (by simp [Ref.sub, h, h2])
        · have h2 : c = 240 := by simpa using h2
          cases long <;> ((conv => whnf); (repeat ((with_reducible refine Rest.mk ?_); (conv => whnf))))
          · exact fin_ref (r' := ⟨bin, cr, cmd, false, opt, none, false, false⟩) (t := some ⟨3, 0, opt, []⟩) (a := 1) (b := 2) (c := 4) (by decide) (by decide) rfl (low_bySl rfl _) .nilS (.inr rfl) (.inl rfl) rfl (.inr rfl) ⟨_, rfl⟩ (by simp [Ref.sub, h, h2])
          · exact fin_ref (r' := ⟨bin, cr, cmd, false, opt, none, false, false⟩) (t := none) (a := 1) (b := 2) (c := 9) (by decide) (by decide) rfl (low_bySl rfl _) .nilS (.inr rfl) (.inl rfl) rfl (.inl rfl) ⟨_, rfl⟩ (by simp [Ref.sub, h, h2])
      · refine testK_true (by simp [encB_length]) ?_
        rw [Nat.mul_one, sub_encB]
        refine testK_true (all_encB _) ?_
        rw [decB_encB]
        ((conv => whnf); (repeat ((with_reducible refine Rest.mk ?_); (conv => whnf))))
        rw [show decide ((c.toNat : Int) = 240) = decide (c = 240) from u8_eq c 240]
        refine testK_split (fun h2 => ?_) (fun h2 => ?_) <;> ((conv => whnf); (repeat ((with_reducible refine Rest.mk ?_); (conv => whnf))))
        · have h2 : c ≠ 240 := by simpa using h2
          refine callT_ref (r := ⟨bin, cr, cmd, false, opt, none, false, false⟩) (a := 1) (b := 2) (hcmd _) (by decide) rfl (low_bySl rfl _) .nilS (.inr rfl) (.inl rfl) (two_args c) ?_
          ((conv => whnf); (repeat ((with_reducible refine Rest.mk ?_); (conv => whnf))))
          exact fin_refT (c := 4) (by decide) rfl rfl (.inr rfl) ⟨_, rfl⟩ (by simp [Ref.sub, h, h2])
        · have h2 : c = 240 := by simpa using h2
          cases long <;> ((conv => whnf); (repeat ((with_reducible refine Rest.mk ?_); (conv => whnf))))
          · exact fin_ref (r' := ⟨bin, cr, cmd, false, opt, none, false, false⟩) (t := some ⟨3, 0, opt, s⟩) (a := 1) (b := 2) (c := 4) (by decide) (by decide) rfl (low_bySl rfl _) .nilS (.inr rfl) (.inl rfl) rfl (.inr rfl) ⟨_, rfl⟩ (by simp [Ref.sub, h, h2])
          · exact fin_ref (r' := ⟨bin, cr, cmd, false, opt, none, false, false⟩) (t := none) (a := 1) (b := 2) (c := 9) (by decide) (by decide) rfl (low_bySl rfl _) .nilS (.inr rfl) (.inl rfl) rfl (.inl rfl) ⟨_, rfl⟩ (by simp [Ref.sub, h, h2])
    · simp at h
      rcases body with _ | s <;> ((conv => whnf); (repeat ((with_reducible refine Rest.mk ?_); (conv => whnf))))
      · refine push_bytes (acc := none) (id := 2) (sz5 _) (by5 _) (fun R h => zero_uint8 R h _) (bs := [c]) rfl (by simp [sz5, sub, encB]) rfl (by simp) (by simp) ?_
        ((conv => whnf); (repeat ((with_reducible refine Rest.mk ?_); (conv => whnf))))
        exact fin_ref (r' := ⟨bin, cr, cmd, inn, opt, some [c], long, false⟩) (t := none) (a := 1) (b := 4) (c := 9) (by decide) (by decide) rfl (low_bySl rfl _) (.sl rfl) (.inr rfl) (.inr rfl) rfl (.inl rfl) ⟨_, rfl⟩ (by simp [Ref.sub, h])
      · refine testK_split (fun h40 => ?_) (fun h40 => ?_) <;> ((conv => whnf); (repeat ((with_reducible refine Rest.mk ?_); (conv => whnf))))
        · have h40 : 40 ≤ s.length := by simp at h40; omega
          exact fin_ref (r' := ⟨bin, cr, cmd, inn, opt, some s, true, false⟩) (t := none) (a := 1) (b := 2) (c := 9) (by decide) (by decide) rfl (low_bySl rfl _) (low_bySl rfl _) (.inr rfl) (.inr rfl) rfl (.inl rfl) ⟨_, rfl⟩ (by simp [Ref.sub, h, h40])
        · have h40 : ¬40 ≤ s.length := by simp at h40; omega
          refine push_bytes (acc := some s) (id := 2) (sz5 _) (by5 _) (fun R h => zero_uint8 R h _) (bs := [c]) rfl (by simp [sz5, sub, encB]) rfl (by simp) (by simp; omega) ?_
          ((conv => whnf); (repeat ((with_reducible refine Rest.mk ?_); (conv => whnf))))
          exact fin_ref (r' := ⟨bin, cr, cmd, inn, opt, some (s ++ [c]), long, false⟩) (t := none) (a := 1) (b := 4) (c := 9) (by decide) (by decide) rfl (low_bySl rfl _) (.sl rfl) (.inr rfl) (.inr rfl) rfl (.inl rfl) ⟨_, rfl⟩ (by simp [Ref.sub, h, h40])

theorem rfeed_ok (r : Ref) (c : UInt8) (hc : r.cmd = none ∨ r.cmd = some [255] ∨ ∃ x, r.cmd = some [255, x]) : T 36 [.ptr 0 0, .int .u8 c.toNat] [.obj (.ref r)] (fun v M' _ => v = resSl 1 (r.feed c).2 ∧ M' = [.obj (.ref (r.feed c).1), resRow (r.feed c).2]) := by
  have hcmd := fun r => command_ok r c
  have hsub := fun r => rsub_ok r c
  obtain ⟨bin, cr, cmd, inn, opt, body, long, iac⟩ := r
  refine CallT.by_body Tryd.func36 rfl Tryd.call36 rfl (Ent.open1 (by simp [unfW])) ?_
  cases inn
  · simp only at hc
    rcases hc with rfl | rfl | ⟨x, rfl⟩ <;> ((conv => whnf); (repeat ((with_reducible refine Rest.mk ?_); (conv => whnf))))
    · rw [show decide ((c.toNat : Int) = 255) = decide (c = 255) from u8_eq c 255]
      refine testK_split (fun h => ?_) (fun h => ?_) <;> ((conv => whnf); (repeat ((with_reducible refine Rest.mk ?_); (conv => whnf))))
      · obtain rfl : c = 255 := by simpa using h
        exact fin_ref (r' := ⟨bin, false, some [255], false, opt, body, long, iac⟩) (t := none) (a := 3) (b := 2) (c := 9) (by decide) (by decide) rfl (.sl rfl) (low_bySl rfl _) (.inr rfl) (.inr rfl) rfl (.inl rfl) ⟨_, rfl⟩ (by simp [Ref.feed])
      · have h : c ≠ 255 := by simpa using h
        have put : (¬(cr = true ∧ c = 0 ∧ bin = false)) → Ref.feed ⟨bin, cr, none, false, opt, body, long, iac⟩ c = (⟨bin, c == 13, none, false, opt, body, long, iac⟩, some ⟨0, 0, 0, [c]⟩) := fun hn => by simp only [Ref.feed]; rw [if_neg h, if_neg hn]; rfl
        have drop : (cr = true ∧ c = 0 ∧ bin = false) → Ref.feed ⟨bin, cr, none, false, opt, body, long, iac⟩ c = (⟨bin, false, none, false, opt, body, long, iac⟩, none) := fun hn => by simp only [Ref.feed]; rw [if_neg h, if_pos hn]; rfl
        have hb0 : decide ((c.toNat : Int) = 0) = (c == 0) := byte_eq c 0
        have hb13 : decide ((c.toNat : Int) = 13) = (c == 13) := byte_eq c 13
        cases cr <;> cases bin <;> ((conv => whnf); (repeat ((with_reducible refine Rest.mk ?_); (conv => whnf))))
        all_goals (try rw [hb0])
        all_goals repeat' (refine testK_split (fun h => ?_) (fun h => ?_) <;> ((conv => whnf); (repeat ((with_reducible refine Rest.mk ?_); (conv => whnf)))))
        all_goals first
          | (refine (data_ok c _).mono ?_
             rintro v M' ch ⟨rfl, rfl, rfl⟩ _
             ((conv => whnf); (repeat ((with_reducible refine Rest.mk ?_); (conv => whnf))))
             exact fin_ref (r' := ⟨_, decide ((c.toNat : Int) = 13), none, false, opt, body, long, iac⟩) (t := some ⟨0, 0, 0, [c]⟩) (a := 1) (b := 2) (c := 3) (by decide) (by decide) rfl .nilS (low_bySl rfl _) (.inl rfl) (.inr rfl) rfl (.inr rfl) ⟨_, rfl⟩ (by rw [put (by simp_all), ← hb13]; exact ⟨rfl, rfl⟩))
          | exact fin_ref (r' := ⟨_, false, none, false, opt, body, long, iac⟩) (t := none) (a := 1) (b := 2) (c := 9) (by decide) (by decide) rfl .nilS (low_bySl rfl _) (.inl rfl) (.inr rfl) rfl (.inl rfl) ⟨_, rfl⟩ (by rw [drop (by simp_all)]; exact ⟨rfl, rfl⟩)
    · refine callT_ref (r := ⟨bin, cr, some [255], false, opt, body, long, iac⟩) (a := 1) (b := 2) (hcmd _) (by decide) rfl (.sl rfl) (low_bySl rfl _) (.inr rfl) (.inr rfl) (two_args c) ?_
      ((conv => whnf); (repeat ((with_reducible refine Rest.mk ?_); (conv => whnf))))
      exact fin_refT (c := 3) (by decide) rfl rfl (.inr rfl) ⟨_, rfl⟩ (by simp [Ref.feed])
    · rw [wrap_byte, show decide ((x.toNat : Int) = 250) = decide (x = 250) from u8_eq x 250]
      refine testK_split (fun h => ?_) (fun h => ?_) <;> ((conv => whnf); (repeat ((with_reducible refine Rest.mk ?_); (conv => whnf))))
      · obtain rfl : x = 250 := by simpa using h
        rw [wrap_byte]
        exact fin_ref (r' := ⟨bin, cr, none, true, c.toNat, none, false, false⟩) (t := none) (a := 1) (b := 2) (c := 9) (by decide) (by decide) rfl .nilS .nilS (.inl rfl) (.inl rfl) rfl (.inl rfl) ⟨_, rfl⟩ (by simp [Ref.feed])
      · have h : x ≠ 250 := by simpa using h
        rw [wrap_byte]
        exact fin_ref (r' := ⟨bin, cr, none, false, opt, body, long, iac⟩) (t := some ⟨2, x.toNat, c.toNat, []⟩) (a := 1) (b := 2) (c := 3) (by decide) (by decide) rfl .nilS (low_bySl rfl _) (.inl rfl) (.inr rfl) rfl (.inr rfl) ⟨_, rfl⟩ (by simp [Ref.feed, h])
  · ((conv => whnf); (repeat ((with_reducible refine Rest.mk ?_); (conv => whnf))))
    refine callT_ref (r := ⟨bin, cr, cmd, true, opt, body, long, iac⟩) (a := 1) (b := 2) (hsub _) (by decide) rfl (low_bySl rfl _) (low_bySl rfl _) (.inr rfl) (.inr rfl) (two_args c) ?_
    ((conv => whnf); (repeat ((with_reducible refine Rest.mk ?_); (conv => whnf))))
    exact fin_refT (c := 3) (by decide) rfl rfl (.inr rfl) ⟨_, rfl⟩ (by simp [Ref.feed])
end Go.Am
end
