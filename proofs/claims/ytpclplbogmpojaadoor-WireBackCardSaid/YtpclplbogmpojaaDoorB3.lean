/-
  Part 3 of a proof: an abstract machine for the program, and what pieces of the program compute (AmOpS13, AmSem, AmMono, AmMono2, AmDet, AmSwap). No condition of its own.
-/
import Derived.Test.YtpclplbogmpojaaDoorB2
set_option linter.unusedSimpArgs false
set_option linter.unusedVariables false
section
namespace Go.Am
open Go

variable {O : Type} {unf : O → List (AO O)} {P : Program}

theorem Runs.builtin {a : Act} {b : Builtin} {args : Array Operand} {ts : Array TypeId} {w w' : World} {cv : Value} (h : ∀ ty consts, (builtin b ts ty consts (args.map a.eval)).run P w = .ok (.value cv) w') : Runs P a (.call { callee := .builtin b, args := args, argTypes := ts }) w cv w' :=
  Runs.mk fun o' ho' => by
    simp only [execOp, ho', resolve, Sem.run_bind, Sem.run_pure, Result.andThen_ok, invoke]
    exact h _ _

theorem map_two {a : Act} {args : Array Operand} {l : List AV} {κ : Ctx} {x y : AV} (hl : l = [x, y]) (h : VRelL κ l (args.toList.map a.eval).toArray) : ∃ cx cy, args.map a.eval = #[cx, cy] ∧ VRel κ x cx ∧ VRel κ y cy := by
  subst hl
  obtain ⟨h1, h2⟩ := h
  obtain ⟨args⟩ := args
  simp at h1
  obtain ⟨p, q, rfl⟩ : ∃ p q, args = [p, q] := by
    match args, h1 with
    | [p, q], _ => exact ⟨p, q, rfl⟩
  exact ⟨a.eval p, a.eval q, by simp, h2 0 (by simp) (by simp), h2 1 (by simp) (by simp)⟩

theorem map_one {a : Act} {args : Array Operand} {l : List AV} {κ : Ctx} {x : AV} (hl : l = [x]) (h : VRelL κ l (args.toList.map a.eval).toArray) : ∃ cx, args.map a.eval = #[cx] ∧ VRel κ x cx := by
  subst hl
  obtain ⟨h1, h2⟩ := h
  obtain ⟨args⟩ := args
  simp at h1
  obtain ⟨p, rfl⟩ : ∃ p, args = [p] := by
    match args, h1 with
    | [p], _ => exact ⟨p, rfl⟩
  exact ⟨a.eval p, by simp, h2 0 (by simp) (by simp)⟩

theorem builtin_sound {κ : Ctx} {M : Mem O} {w : World} {S : Nat → Prop} (hR : Rep unf κ M w S) {a : Act} {b : Builtin} {ts : Array TypeId} {args : Array Operand} {l : List AV} {K : AV → Mem O → Prop} (h : builtinA P b ts l M K) (hl : VRelL κ l (args.toList.map a.eval).toArray) :
    ∃ cv w', Done unf κ S w M.length K cv w' ∧ Runs P a (.call { callee := .builtin b, args := args, argTypes := ts }) w cv w' := by
  unfold builtinA at h
  split at h
  · rename_i x
    obtain ⟨cx, hargs, hx⟩ := map_one rfl hl
    split at h
    · rename_i t ht0
      obtain ⟨d, hd, h⟩ := descK_iff.1 h
      split at h
      · exact ⟨_, w, Done.pure h hR (.int _ _), Runs.builtin fun ty cs => by rw [hargs]; simp [Go.builtin, Builtin.len_, ht0, run_und hd, goInt]⟩
      · exact h.elim
      · obtain ⟨bs, rfl, rfl⟩ := hx.str_inv
        have : bs.data.toList.length = bs.size := by simp
        rw [this] at h
        exact ⟨_, w, Done.pure h hR (.int _ _), Runs.builtin fun ty cs => by rw [hargs]; simp [Go.builtin, Builtin.len_, ht0, run_und hd, goInt]⟩
      · exact h.elim
      · cases x with
        | nilS =>
          have := hx.nilS_inv; subst this
          exact ⟨_, w, Done.pure h hR (.int _ _), Runs.builtin fun ty cs => by rw [hargs]; simp [Go.builtin, Builtin.len_, ht0, run_und hd, goInt]⟩
        | sl id off len cap =>
          obtain ⟨_, _, _, _, _, _, rfl, _⟩ := hx.sl_inv
          exact ⟨_, w, Done.pure h hR (.int _ _), Runs.builtin fun ty cs => by rw [hargs]; simp [Go.builtin, Builtin.len_, ht0, run_und hd, goInt]⟩
        | vs cs n =>
          cases hx with
          | vs => exact ⟨_, w, Done.pure h hR (.int _ _), Runs.builtin fun ty cs => by rw [hargs]; simp [Go.builtin, Builtin.len_, ht0, run_und hd, goInt]⟩
          | vs0 => exact ⟨_, w, Done.pure h hR (.int _ _), Runs.builtin fun ty cs => by rw [hargs]; simp [Go.builtin, Builtin.len_, ht0, run_und hd, goInt]⟩
        | str s =>
          rename_i e1
          exact absurd rfl (e1 _)
        | _ => exact h.elim
      · exact h.elim
    · exact h.elim
  · rename_i x
    obtain ⟨cx, hargs, hx⟩ := map_one rfl hl
    split at h
    · rename_i t ht0
      obtain ⟨d, hd, h⟩ := descK_iff.1 h
      split at h
      · have := hx.nilS_inv; subst this
        exact ⟨_, w, Done.pure h hR (.int _ _), Runs.builtin fun ty cs => by rw [hargs]; simp [Go.builtin, Builtin.cap_, ht0, run_und hd, goInt]⟩
      · obtain ⟨ob, hM, h⟩ := getK_iff.1 h
        obtain ⟨L, q, c, hL, _, _, rfl, _, hcap, _⟩ := hx.sl_inv
        cases ob with
        | dead => exact h.elim
        | obj _ => exact h.elim
        | cells ek cells =>
          cases ek with
          | some _ => exact h.elim
          | none =>
            obtain ⟨L', _, _, _, g3, g4, _⟩ := hR.cells hM
            rw [hL] at g3; cases g3
            have := hcap g4
            subst this
            exact ⟨_, w, Done.pure h hR (.int _ _), Runs.builtin fun ty cs => by rw [hargs]; simp [Go.builtin, Builtin.cap_, ht0, run_und hd, goInt]⟩
      · exact h.elim
    · exact h.elim
  · obtain ⟨cx, cy, hargs, hx, hy⟩ := map_two rfl hl
    obtain ⟨cv, w', hD, hrun⟩ := append_sound (ty := 0) hR h hx hy
    refine ⟨cv, w', hD, Runs.builtin fun ty cs => ?_⟩
    rw [hargs]
    have e : Builtin.append_ ts ty #[cx, cy] = Builtin.append_ ts 0 #[cx, cy] := rfl
    simp only [Go.builtin, Sem.run_bind, e, hrun, Result.andThen_ok, Sem.run_pure]
  · obtain ⟨cx, cy, hargs, hx, hy⟩ := map_two rfl hl
    obtain ⟨cv, w', hD, hrun⟩ := copy_sound (ty := 0) hR h hx hy
    refine ⟨cv, w', hD, Runs.builtin fun ty cs => ?_⟩
    rw [hargs]
    have e : Builtin.copy_ ts ty #[cx, cy] = Builtin.copy_ ts 0 #[cx, cy] := rfl
    simp only [Go.builtin, Sem.run_bind, e, hrun, Result.andThen_ok, Sem.run_pure]
  · rename_i k n r
    obtain ⟨h1, h2⟩ := hl
    have hne : ∃ x xs, args.toList = x :: xs := by
      cases hh : args.toList with
      | nil => rw [hh] at h1; simp at h1
      | cons x xs => exact ⟨x, xs, rfl⟩
    obtain ⟨x, xs, hxs⟩ := hne
    have h0 := (h2 0 (by simp) (by simp [hxs])).int_inv
    simp [hxs] at h0
    obtain ⟨m, hm, hrun⟩ := mins_sound (P := P) (κ := κ) w h (m := xs.map a.eval) (by rw [hxs] at h1; simpa using h1) (fun i p q => by
      have := h2 (i + 1) (by simpa using p) (by simpa [hxs] using q)
      simpa [hxs] using this)
    refine ⟨_, w, Done.pure hm hR (.int _ _), Runs.builtin fun ty cs => ?_⟩
    simp only [Go.builtin, Builtin.min_, Array.toList_map, hxs, List.map_cons, h0, Sem.run_bind, hrun, Result.andThen_ok, Sem.run_pure]
  · rename_i k n r
    obtain ⟨h1, h2⟩ := hl
    have hne : ∃ x xs, args.toList = x :: xs := by
      cases hh : args.toList with
      | nil => rw [hh] at h1; simp at h1
      | cons x xs => exact ⟨x, xs, rfl⟩
    obtain ⟨x, xs, hxs⟩ := hne
    have h0 := (h2 0 (by simp) (by simp [hxs])).int_inv
    simp [hxs] at h0
    obtain ⟨m, hm, hrun⟩ := maxs_sound (P := P) (κ := κ) w h (m := xs.map a.eval) (by rw [hxs] at h1; simpa using h1) (fun i p q => by
      have := h2 (i + 1) (by simpa using p) (by simpa [hxs] using q)
      simpa [hxs] using this)
    refine ⟨_, w, Done.pure hm hR (.int _ _), Runs.builtin fun ty cs => ?_⟩
    simp only [Go.builtin, Builtin.max_, Array.toList_map, hxs, List.map_cons, h0, Sem.run_bind, hrun, Result.andThen_ok, Sem.run_pure]
  · exact h.elim

theorem opA_sound {κ : Ctx} {M : Mem O} {w : World} {S : Nat → Prop} (hR : Rep unf κ M w S) {e : Env} {a : Act} (hE : VRelL κ e a.tmps) {o : Op} {K : AV → Mem O → Prop} (h : opA P o e M K) :
    ∃ cv w', Done unf κ S w M.length K cv w' ∧ Runs P a o w cv w' := by
  have pure' : ∀ {o : Op}, (∃ cv, Done unf κ S w M.length K cv w ∧ Runs P a o w cv w) → ∃ cv w', Done unf κ S w M.length K cv w' ∧ Runs P a o w cv w' := fun ⟨cv, h1, h2⟩ => ⟨cv, w, h1, h2⟩
  cases o with
  | move x =>
    obtain ⟨v, h, hv⟩ := evK_sound hE h
    exact pure' (still hR h hv (Runs.mk fun o' ho' => by simp [execOp, ho']))
  | assign x =>
    obtain ⟨v, h, hv⟩ := evK_sound hE h
    exact pure' (still hR h hv (Runs.mk fun o' ho' => by simp [execOp, ho']))
  | pick c x y =>
    obtain ⟨v, h, hv⟩ := evK_sound hE h
    cases v with
    | bool t =>
      have hc := hv.bool_inv
      cases t with
      | true =>
        obtain ⟨v, h, hv⟩ := evK_sound hE h
        exact pure' (still hR h hv (Runs.mk fun o' ho' => by simp [execOp, ho', hc, asBool]))
      | false =>
        obtain ⟨v, h, hv⟩ := evK_sound hE h
        exact pure' (still hR h hv (Runs.mk fun o' ho' => by simp [execOp, ho', hc, asBool]))
    | _ => exact h.elim
  | alloc t => exact alloc_sound hR h
  | box t x =>
    obtain ⟨v, h, hv⟩ := evK_sound hE h
    exact box_sound hR h hv
  | build t ps =>
    obtain ⟨vs, h, hv⟩ := partsK_sound hE h
    exact pure' (build_sound hR h hv)
  | buildSlice t n ps =>
    obtain ⟨vs, h, hv⟩ := partsK_sound hE h
    exact buildSlice_sound hR h hv
  | load t x =>
    obtain ⟨v, h, hv⟩ := evK_sound hE h
    obtain ⟨cv, h1, h2, _⟩ := load_sound hR h hv
    exact ⟨cv, w, h1, h2⟩
  | store t x y =>
    obtain ⟨v, h, hv⟩ := evK_sound hE h
    obtain ⟨u, h, hu⟩ := evK_sound hE h
    exact store_sound hR h hv hu
  | nilCheck x =>
    obtain ⟨v, h, hv⟩ := evK_sound hE h
    exact pure' (nilCheck_sound hR h hv)
  | binOp op t x y u =>
    obtain ⟨v, h, hv⟩ := evK_sound hE h
    obtain ⟨v', h, hv'⟩ := evK_sound hE h
    exact pure' (bin_sound hR h hv hv')
  | unOp op t x =>
    obtain ⟨v, h, hv⟩ := evK_sound hE h
    exact pure' (un_sound hR h hv)
  | convert s d x =>
    obtain ⟨v, h, hv⟩ := evK_sound hE h
    exact conv_sound hR h hv
  | makeFunc fn first captured =>
    cases fn with
    | func f =>
      simp only [opA] at h
      cases hc : captured.toList with
      | nil =>
        rw [hc] at h
        obtain ⟨l, h, hl⟩ := evsK_sound hE h
        have hc' : captured = #[] := by cases captured; simp at hc; simp [hc]
        refine ⟨.func (.func f) (first.map a.eval) #[], w, Done.pure h hR (.fn ?_ ?_), Runs.mk fun o' ho' => by simp [execOp, ho', Instr.makeFunc, hc']⟩
        · have := hl.1; simpa using this
        · intro i h1 h2
          have := hl.2 i h1 (by simpa using h2)
          simpa using this
      | cons x xs => rw [hc] at h; exact h.elim
    | _ => exact h.elim
  | makeSlice t l c =>
    obtain ⟨v, h, hv⟩ := evK_sound hE h
    obtain ⟨v', h, hv'⟩ := evK_sound hE h
    exact makeSlice_sound hR h hv hv'
  | slice t x lo hi mx =>
    obtain ⟨v, h, hv⟩ := evK_sound hE h
    exact pure' (slice_sound hR hE h hv)
  | fieldAddr t x f =>
    obtain ⟨v, h, hv⟩ := evK_sound hE h
    exact pure' (fieldAddr_sound hR h hv)
  | field t x f =>
    obtain ⟨v, h, hv⟩ := evK_sound hE h
    exact pure' (field_sound hR h hv)
  | indexAddr t x i =>
    obtain ⟨v, h, hv⟩ := evK_sound hE h
    obtain ⟨v', h, hv'⟩ := evK_sound hE h
    exact pure' (indexAddr_sound hR h hv hv')
  | index t x i =>
    obtain ⟨v, h, hv⟩ := evK_sound hE h
    obtain ⟨v', h, hv'⟩ := evK_sound hE h
    exact pure' (index_sound hR h hv hv')
  | extract x i =>
    obtain ⟨v, h, hv⟩ := evK_sound hE h
    exact pure' (extract_sound hR h hv)
  | call c =>
    obtain ⟨callee, args, ts⟩ := c
    cases callee with
    | builtin b =>
      obtain ⟨l, h, hl⟩ := evsK_sound hE h
      exact builtin_sound hR h hl
    | _ => exact h.elim
  | _ => exact h.elim

end Go.Am
end
section
namespace Go.Am
open Go

variable {O : Type} (unf : O → List (AO O)) (P : Program)

/-- a call of a function, with a body or without -/
def Invokes (f : FuncId) (args : Array Value) (w : World) (R : Value → World → Prop) : Prop :=
  (∃ cv w', (callFunc f args).run P w = .ok (.value cv) w' ∧ R cv w') ∨
  ((callFunc f args).run P w = .ok (.enter f args) w ∧ Calls P f args w fun e w' => ∃ cv, e = .returned cv ∧ R cv w')

/-- old objects that are not named are as they were -/
def ChOk (M M' : Mem O) (ch : List Nat) : Prop := M.length ≤ M'.length ∧ ∀ i, i < M.length → i ∉ ch → M'[i]? = M[i]?

/-- what a call asks, in the model -/
def CallT : CallP O := fun f args M R => ∀ κ S w cargs, Rep unf κ M w S → VRelL κ args cargs →
  Invokes P f cargs w fun cv w' => ∃ κ' S' v M' ch, R v M' ch ∧ Rep unf κ' M' w' S' ∧ VRel κ' v cv ∧ Post M.length κ S w κ' S' w' ∧ ChOk M M' ch

/-- a weaker view of the same memory -/
def Ent : EntP O := fun n e M e' M' => n ≤ M.length → n ≤ M'.length ∧ e'.length = e.length ∧ ∀ κ S w, Rep unf κ M w S →
  ∃ κ' S', Rep unf κ' M' w S' ∧ Post n κ S w κ' S' w ∧ ∀ i (h : i < e.length) (h' : i < e'.length) cv, VRel κ e[i] cv → VRel κ' e'[i] cv

variable {unf} {P}

theorem Post.le {n : Nat} {κ κ' : Ctx} {S S' : Nat → Prop} {w w' : World} (h : Post n κ S w κ' S' w') (hd : ∀ i, n ≤ i → κ.at_ i = none) : κ.Le κ' := by
  refine ⟨fun i L hi => ?_, h.imm⟩
  by_cases hn : i < n
  · rw [h.at_ i hn]; exact hi
  · rw [hd i (by omega)] at hi; cases hi

theorem VRelL.put {κ : Ctx} {e : Env} {a : Act} {v : AV} {cv : Value} {dst : Option Tmp} {R : Env → Prop} (hE : VRelL κ e a.tmps) (hv : VRel κ v cv) (h : putE R v e dst) : ∃ e', R e' ∧ VRelL κ e' (a.put dst cv).tmps := by
  cases dst with
  | none => exact ⟨e, h, hE⟩
  | some t =>
    obtain ⟨hlt, h⟩ := setK_iff.1 h
    refine ⟨_, h, by simp [Act.put, hE.1], fun i h1 h2 => ?_⟩
    simp [Act.put] at h1 h2 ⊢
    rw [List.getElem_set, Array.getElem_setIfInBounds]
    by_cases hi : t = i
    · simp [hi, hv]
    · simp only [if_neg hi]
      exact hE.2 i h1 h2

theorem put_defers (a : Act) (dst : Option Tmp) (v : Value) : (a.put dst v).defers = a.defers := by cases dst <;> rfl

/-- an operation, a call too -/
theorem oper_sound {κ : Ctx} {M : Mem O} {w : World} {S : Nat → Prop} (hR : Rep unf κ M w S) {e : Env} {a : Act} (hE : VRelL κ e a.tmps) {o : Oper} {K : AV → Mem O → Prop} (h : operA P (CallT unf P) o.op e M K) {next : Act → World → Prop} {Q : Exit → Act → World → Prop}
    (hnext : ∀ κ' S' w' v cv M', K v M' → Rep unf κ' M' w' S' → VRel κ' v cv → κ.Le κ' → Post M.length κ S w κ' S' w' → M.length ≤ M'.length → next (a.put o.dst cv) w') : o.wp P a w next Q := by
  unfold operA at h
  split at h
  · rename_i c hc
    -- a call
    have hop : o.op = .call c := by
      unfold isCall at hc
      split at hc
      · split at hc
        · cases hc; assumption
        · cases hc
      · cases hc
    unfold callA at h
    split at h
    · rename_i x hx
      obtain ⟨v, h, hv⟩ := evK_sound hE h
      cases v with
      | fn f first =>
        obtain ⟨l, h, hl⟩ := evsK_sound hE h
        generalize hq : a.eval x = cf at hv
        cases hv with
        | @fn _ _ A g1 g2 =>
          have hargs : VRelL κ (first ++ l) (A ++ c.args.map a.eval) := by
            refine ⟨by have := hl.1; simp at this ⊢; omega, fun i h1 h2 => ?_⟩
            simp at h1
            by_cases hi : i < first.length
            · rw [List.getElem_append_left hi, Array.getElem_append_left (by omega)]
              exact g2 i hi (by omega)
            · rw [List.getElem_append_right (by omega), Array.getElem_append_right (by omega)]
              have := hl.2 (i - first.length) (by omega) (by have := hl.1; simp at this ⊢; omega)
              simp at this
              simpa [g1] using this
          have hexec : (execOp a.eval o).run P w = (callFunc f (A ++ c.args.map a.eval)).run P w := by
            simp [execOp, hop, resolve, hx, hq, Deferred.ofValue, invoke]
          rcases h κ S w _ hR hargs with ⟨cv, w', hrun, κ', S', v, M', ch, hK, hR', hv', hP, hch⟩ | ⟨hrun, hcalls⟩
          · unfold Oper.wp
            rw [hexec, hrun, Oper.upon_value]
            exact hnext κ' S' w' v cv M' hK hR' hv' (hP.le hR.dom) hP hch.1
          · unfold Oper.wp
            rw [hexec, hrun, Oper.upon_enter]
            refine hcalls.mono fun e' w' he => ?_
            obtain ⟨cv, rfl, κ', S', v, M', ch, hK, hR', hv', hP, hch⟩ := he
            exact hnext κ' S' w' v cv M' hK hR' hv' (hP.le hR.dom) hP hch.1
      | _ => exact h.elim
    · exact h.elim
  · obtain ⟨cv, w', ⟨κ', S', v, M', hK, hR', hv, hle, hP, hlen⟩, hrun⟩ := opA_sound hR hE h
    unfold Oper.wp
    rcases hrun o rfl with h1 | ⟨h1, rfl⟩
    · rw [h1, Oper.upon_value]
      exact hnext κ' S' w' v cv M' hK hR' hv hle hP hlen
    · rw [h1, Oper.upon_skip]
      exact hnext κ' S' w' v undef M' hK hR' hv hle hP hlen

theorem yield_of {ops : Array Oper} {tmps : Array Value} {j : Nat} {p : Oper} {t : Tmp} (h1 : ops[j]? = some p) (h2 : p.dst = some t) : yielded ops tmps j = match tmps[t]? with | some (.bool b) => some b | _ => none := by
  unfold yielded; rw [h1]; simp only [Option.bind_some, h2]
  cases tmps[t]? with
  | none => rfl
  | some v => cases v <;> rfl

/-- a guard: wanted or not, and the slots as before -/
theorem guard_sound {κ : Ctx} {ops : Array Oper} {e : Env} {a : Act} (hE : VRelL κ e a.tmps) {o : Oper} {R : Bool → Env → Prop} (h : guardK ops.toList R e o.guard) : ∃ e', R (Region.wanted o (yielded ops a.tmps)) e' ∧ VRelL κ e' a.tmps := by
  cases hg : o.guard with
  | none =>
    rw [hg] at h
    have h : R true e := h
    exact ⟨e, by simpa [Region.wanted, hg] using h, hE⟩
  | some x =>
    obtain ⟨j, want⟩ := x
    rw [hg] at h
    obtain ⟨p, hp, h⟩ := getK_iff.1 h
    cases hd : p.dst with
    | none => simp [hd] at h
    | some t =>
      simp only [hd] at h
      obtain ⟨v, hv, h⟩ := getK_iff.1 h
      have hp' : ops[j]? = some p := by simpa using hp
      obtain ⟨c, hc, hr⟩ := hE.get hv
      have hy := yield_of (tmps := a.tmps) hp' hd
      rw [hc] at hy
      have lit : ∀ b : Bool, c = .bool b → VRelL κ (e.set t (.bool b)) a.tmps := by
        intro b hb
        refine ⟨by simp [hE.1], fun i h1 h2 => ?_⟩
        rw [List.getElem_set]
        by_cases hi : t = i
        · subst hi
          simp only [if_true]
          rw [Array.getElem?_eq_getElem h2] at hc
          cases hc
          rw [hb]
          exact .bool b
        · simp only [if_neg hi]
          exact hE.2 i (by simpa using h1) h2
      cases v with
      | bool b =>
        have hb := hr.bool_inv
        subst hb
        simp only at hy
        cases b with
        | true =>
          obtain ⟨_, h⟩ := setK_iff.1 h
          refine ⟨_, ?_, lit true rfl⟩
          have : Region.wanted o (yielded ops a.tmps) = want := by
            simp only [Region.wanted, hg, hy]
            cases want <;> rfl
          rw [this]; exact h
        | false =>
          obtain ⟨_, h⟩ := setK_iff.1 h
          refine ⟨_, ?_, lit false rfl⟩
          have : Region.wanted o (yielded ops a.tmps) = !want := by
            simp only [Region.wanted, hg, hy]
            cases want <;> rfl
          rw [this]; exact h
      | tup l =>
        refine ⟨e, ?_, hE⟩
        have : Region.wanted o (yielded ops a.tmps) = false := by
          cases hr with
          | tup h1 h2 => simp only [Region.wanted, hg, hy]; rfl
        rw [this]; exact h
      | _ => exact h.elim

theorem undef_rel (κ : Ctx) : VRel κ undefA undef := .tup rfl (fun i h _ => by simp at h)

/-- a list of operations, one behind the other -/
theorem ops_sound {ds : List Deferred} {ops : Array Oper} {K : Env → Mem O → Prop} {Q : Exit → Act → World → Prop} {n : Nat} {κ0 : Ctx} {S0 : Nat → Prop} {w0 : World}
    (hend : ∀ κ S w a e M, K e M → Rep unf κ M w S → VRelL κ e a.tmps → a.defers = ds → Post n κ0 S0 w0 κ S w → n ≤ M.length → Q .normal a w) : ∀ (rest : List Oper) (k : Nat) {κ : Ctx} {M : Mem O} {w : World} {S : Nat → Prop} {e : Env} {a : Act}, ops.toList.drop k = rest →
      opsA P (CallT unf P) ops.toList K rest e M → Rep unf κ M w S → VRelL κ e a.tmps → a.defers = ds → Post n κ0 S0 w0 κ S w → n ≤ M.length → wpOps P ops Q (List.range' k rest.length) a w
  | [], k, κ, M, w, S, e, a, hk, h, hR, hE, hd, hP, hn => hend κ S w a e M h hR hE hd hP hn
  | o :: rest, k, κ, M, w, S, e, a, hk, h, hR, hE, hd, hP, hn => by
    have hlt : k < ops.toList.length := by
      rcases Nat.lt_or_ge k ops.toList.length with h1 | h1
      · exact h1
      · rw [List.drop_of_length_le h1] at hk; cases hk
    rw [List.drop_eq_getElem_cons hlt] at hk
    simp only [List.cons.injEq] at hk
    obtain ⟨ho, hrest⟩ := hk
    have hok : ops[k]? = some o := by
      simp at hlt
      rw [Array.getElem?_eq_getElem hlt]
      simpa using ho
    simp only [List.length_cons, List.range'_succ, wpOps, hok]
    simp only [opsA] at h
    obtain ⟨e', h, hE'⟩ := guard_sound hE h
    cases hw : Region.wanted o (yielded ops a.tmps) with
    | true =>
      rw [hw] at h
      simp only [if_true]
      refine .inl (oper_sound hR hE' h fun κ' S' w' v cv M' hK hR' hv hle hP' hlen => ?_)
      obtain ⟨e2, h2, hE2⟩ := VRelL.put (hE'.le hle) hv hK
      exact ops_sound hend rest (k + 1) hrest h2 hR' hE2 (by rw [put_defers]; exact hd) (hP.trans hP' hn) (by omega)
    | false =>
      rw [hw] at h
      simp only [Bool.false_eq_true, if_false]
      obtain ⟨e2, h2, hE2⟩ := VRelL.put hE' (undef_rel κ) h
      exact ops_sound hend rest (k + 1) hrest h2 hR hE2 (by rw [put_defers]; exact hd) hP hn

end Go.Am
end
section
namespace Go.Am
open Go

variable {P : Program} {O : Type}

def evV (e : Env) : Operand → Option AV
  | .tmp t => e[t]?
  | .const v => some (ofVal v)
  | .global _ => none
  | .func f => some (.fn f [])

theorem evK_iff {e : Env} {R : AV → Prop} {x : Operand} : evK e R x ↔ ∃ v, evV e x = some v ∧ R v := by
  cases x with
  | tmp t => exact getK_iff
  | const v => cases v <;> simp [evK, evV, constK, ofVal, ofCell]
  | global g => simp [evK, evV]
  | func f => simp [evK, evV]

/-- the same operand, the same value -/
theorem evK_to {e e' : Env} {R R' : AV → Prop} {x : Operand} (h : evK e R x) (he : evV e' x = evV e x) (hr : ∀ v, evV e x = some v → R v → R' v) : evK e' R' x := by
  obtain ⟨v, h1, h2⟩ := evK_iff.1 h
  exact evK_iff.2 ⟨v, he.trans h1, hr v h1 h2⟩

theorem evsK_to {e e' : Env} : ∀ {l : List Operand} {R R' : List AV → Prop}, evsK e R l → (∀ x, x ∈ l → evV e' x = evV e x) → (∀ v, R v → R' v) → evsK e' R' l
  | [], R, R', h, _, hr => hr _ h
  | x :: l, R, R', h, he, hr => by
    refine evK_to h (he x (by simp)) fun v _ h => ?_
    exact evsK_to h (fun y hy => he y (by simp [hy])) fun v h => hr _ h

theorem partsK_to {e e' : Env} : ∀ {l : List (Nat × Operand)} {R R' : List (Nat × AV) → Prop}, partsK e R l → (∀ x, x ∈ l.map (·.2) → evV e' x = evV e x) → (∀ v, R v → R' v) → partsK e' R' l
  | [], R, R', h, _, hr => hr _ h
  | (i, x) :: l, R, R', h, he, hr => by
    refine evK_to h (he x (by simp)) fun v _ h => ?_
    exact partsK_to h (fun y hy => he y (by simp at hy ⊢; exact .inr hy)) fun v h => hr _ h

theorem descK_mono {R R' : TypeDesc → Prop} {t : TypeId} (h : descK P R t) (hr : ∀ d, R d → R' d) : descK P R' t := by
  obtain ⟨d, h1, h2⟩ := descK_iff.1 h; exact descK_iff.2 ⟨d, h1, hr d h2⟩
theorem infoK_mono {R R' : TypeInfo → Prop} {t : TypeId} (h : infoK P R t) (hr : ∀ d, R d → R' d) : infoK P R' t := by
  obtain ⟨d, h1, h2⟩ := infoK_iff.1 h; exact infoK_iff.2 ⟨d, h1, hr d h2⟩
theorem sizeK_mono {R R' : Nat → Prop} {t : TypeId} (h : sizeK P R t) (hr : ∀ d, R d → R' d) : sizeK P R' t := infoK_mono h fun _ => hr _
theorem aggK_mono {R R' : Bool → Prop} {t : TypeId} (h : aggK P R t) (hr : ∀ d, R d → R' d) : aggK P R' t := by
  obtain ⟨d, h1, h2⟩ := aggK_iff.1 h; exact aggK_iff.2 ⟨d, h1, hr _ h2⟩
theorem testK_mono {b : Bool} {A B A' B' : Prop} (h : testK b A B) (ha : A → A') (hb : B → B') : testK b A' B' := by
  cases b
  · exact hb h
  · exact ha h
theorem payK_mono {b : Bool} {A A' : Prop} (h : payK b A) (ha : A → A') : payK b A' := testK_mono h ha id
theorem getK_mono {α : Type} {R R' : α → Prop} {l : List α} {n : Nat} (h : getK R l n) (hr : ∀ v, R v → R' v) : getK R' l n := by
  obtain ⟨v, h1, h2⟩ := getK_iff.1 h; exact getK_iff.2 ⟨v, h1, hr v h2⟩
theorem takeK_mono {α : Type} {R R' : List α → Prop} {l : List α} {n : Nat} (h : takeK R n l) (hr : ∀ v, R v → R' v) : takeK R' n l := takeK_iff.2 ((takeK_iff.1 h).imp id (hr _))
theorem dropK_mono {α : Type} {R R' : List α → Prop} {l : List α} {n : Nat} (h : dropK R n l) (hr : ∀ v, R v → R' v) : dropK R' n l := dropK_iff.2 ((dropK_iff.1 h).imp id (hr _))
theorem putK_mono {α : Type} {R R' : List α → Prop} {vs l : List α} {n : Nat} (h : putK vs R n l) (hr : ∀ v, R v → R' v) : putK vs R' n l := putK_iff.2 ((putK_iff.1 h).imp id (hr _))
theorem headK_mono {R R' : AV → Prop} {l : List AV} (h : headK R l) (hr : ∀ v, R v → R' v) : headK R' l := by
  cases l
  · exact h
  · exact hr _ h
theorem cellsK_mono : ∀ {l : List Value} {R R' : List AV → Prop}, cellsK R l → (∀ v, R v → R' v) → cellsK R' l
  | [], R, R', h, hr => hr _ h
  | v :: l, R, R', h, hr => by
    simp only [cellsK] at h ⊢
    split at h
    · exact cellsK_mono h fun v h => hr _ h
    · exact h.elim
theorem zeroK_mono {R R' : List AV → Prop} {t : TypeId} (h : zeroK P R t) (hr : ∀ d, R d → R' d) : zeroK P R' t := by
  refine infoK_mono h fun i h => ?_
  cases hz : i.zero with
  | none => rw [hz] at h; exact h.elim
  | some z => rw [hz] at h; exact cellsK_mono h hr
theorem fillK_mono {place : Nat → Option (Nat × Nat)} {R R' : List AV → Prop} (hr : ∀ d, R d → R' d) : ∀ {l : List (Nat × AV)} {cs : List AV}, fillK place R l cs → fillK place R' l cs
  | [], cs, h => hr _ h
  | (i, v) :: l, cs, h => by
    simp only [fillK] at h ⊢
    cases hp : place i with
    | none => rw [hp] at h; exact h.elim
    | some x => rw [hp] at h; exact payK_mono h fun h => putK_mono h fun _ h => fillK_mono hr h
theorem numK_mono {R R' : IntKind → Int → Prop} {v : AV} (h : numK R v) (hr : ∀ k n, R k n → R' k n) : numK R' v := by
  cases v <;> first | exact h.elim | exact hr _ _ h
theorem bitK_mono {R R' : Bool → Prop} {v : AV} (h : bitK R v) (hr : ∀ n, R n → R' n) : bitK R' v := by
  cases v <;> first | exact h.elim | exact hr _ h
theorem lenK_mono {R R' : Nat → Prop} {v : AV} (h : lenK R v) (hr : ∀ n, R n → R' n) : lenK R' v := by
  cases v <;> first | exact h.elim | exact hr _ h
theorem repsK_mono {z : List AV} {n : Nat} {R R' : List AV → Prop} (h : repsK z R n) (hr : ∀ v, R v → R' v) : repsK z R' n := repsK_iff.2 (hr _ (repsK_iff.1 h))
theorem appK_mono {α : Type} {R R' : List α → Prop} {l m : List α} (h : appK R l m) (hr : ∀ v, R v → R' v) : appK R' l m := appK_iff.2 (hr _ (appK_iff.1 h))

theorem rowK_mono {t : TypeId} {len : Nat} {ps : List (Nat × AV)} {R R' : Nat → List AV → Prop} (h : rowK P t len ps R) (hr : ∀ n cs, R n cs → R' n cs) : rowK P t len ps R' := by
  refine descK_mono h fun d h => ?_
  cases d <;> first | exact h.elim | skip
  exact sizeK_mono h fun n h => payK_mono h fun h => zeroK_mono h fun z h => payK_mono h fun h => repsK_mono h fun l h => fillK_mono (fun _ h => hr _ _ h) h

theorem partK_mono {t : TypeId} {off : Nat} {cs : List AV} {R R' : AV → Prop} (h : partK P t off R cs) (hr : ∀ v, R v → R' v) : partK P t off R' cs := by
  refine aggK_mono h fun d h => ?_
  cases d
  · exact dropK_mono h fun _ h => headK_mono h hr
  · exact sizeK_mono h fun n h => dropK_mono h fun _ h => takeK_mono h fun _ h => hr _ h

theorem eqFs_mono {E : TypeId → AV → AV → (Bool → Prop) → Prop} (hE : ∀ t x y R R', E t x y R → (∀ b, R b → R' b) → E t x y R') {xs ys : List AV} : ∀ {fs : List Field} {R R' : Bool → Prop}, eqFs P E xs ys R fs → (∀ b, R b → R' b) → eqFs P E xs ys R' fs
  | [], _, _, h, hr => hr _ h
  | _ :: _, _, _, h, hr => partK_mono h fun _ h => partK_mono h fun _ h => hE _ _ _ _ _ h fun _ h => eqFs_mono hE h fun _ h => hr _ h

theorem eqT_mono : ∀ {n : Nat} {t : TypeId} {x y : AV} {R R' : Bool → Prop}, eqT P n t x y R → (∀ b, R b → R' b) → eqT P n t x y R'
  | 0, t, x, y, R, R', h, hr => h
  | n + 1, t, x, y, R, R', h, hr => by
    refine descK_mono h fun d h => ?_
    split at h
    case h_4 => exact payK_mono h fun h => eqFs_mono (E := eqT P n) (fun _ _ _ _ _ h hr => eqT_mono h hr) h hr
    all_goals first | exact h.elim | exact hr _ h | exact payK_mono h (hr _)

section
variable {M M' : Mem O} {K K' : AV → Mem O → Prop}

theorem atK_to {p : AV} {R R' : List AV → Prop} (h : atK M R p) (hm : ∀ id off, p = .ptr id off → id < M.length → M'[id]? = M[id]?) (hr : ∀ v, R v → R' v) : atK M' R' p := by
  cases p <;> first | exact h.elim | skip
  · obtain ⟨o, h1, h2⟩ := getK_iff.1 h
    refine getK_iff.2 ⟨o, (hm _ _ rfl (List.getElem?_eq_some_iff.1 h1).1).trans h1, ?_⟩
    cases o <;> first | exact h2.elim | skip
    exact dropK_mono h2 hr
  · exact hr _ h

theorem loadA_to {t : TypeId} {p : AV} (h : loadA P t p M K) (hm : ∀ id off, p = .ptr id off → id < M.length → M'[id]? = M[id]?) (hk : ∀ v, K v M → K' v M') : loadA P t p M' K' := by
  refine aggK_mono h fun d h => ?_
  cases d
  · exact atK_to h hm fun _ h => headK_mono h hk
  · exact sizeK_mono h fun n h => atK_to h hm fun _ h => takeK_mono h fun _ h => hk _ h

theorem buildA_to {t : TypeId} {ps : List (Nat × AV)} (h : buildA P t ps M K) (hk : ∀ v, K v M → K' v M') : buildA P t ps M' K' := by
  refine zeroK_mono h fun z h => descK_mono h fun d h => ?_
  cases d <;> first | exact h.elim | skip
  · exact sizeK_mono h fun n h => fillK_mono (fun _ h => hk _ h) h
  · exact payK_mono h fun h => fillK_mono (fun _ h => hk _ h) h

theorem nilCheckA_to {p : AV} (h : nilCheckA p M K) (hk : ∀ v, K v M → K' v M') : nilCheckA p M' K' := by
  cases p <;> first | exact h.elim | exact hk _ h

theorem intA_mono {op : BinOp} {k : IntKind} {x y : Int} {R R' : AV → Prop} (h : intA op k x y R) (hr : ∀ v, R v → R' v) : intA op k x y R' := by
  cases op <;> first | exact h.elim | exact hr _ h | exact payK_mono h (hr _)
theorem shiftA_mono {op : BinOp} {k : IntKind} {x y : Int} {R R' : AV → Prop} (h : shiftA op k x y R) (hr : ∀ v, R v → R' v) : shiftA op k x y R' := by
  cases op <;> first | exact h.elim | exact payK_mono h (hr _)
theorem strA_mono {op : BinOp} {x y : List UInt8} {R R' : AV → Prop} (h : strA op x y R) (hr : ∀ v, R v → R' v) : strA op x y R' := by
  cases op <;> first | exact h.elim | exact hr _ h | exact payK_mono h (hr _)

theorem binA_to {op : BinOp} {t : TypeId} {x y : AV} (h : binA P op t x y M K) (hk : ∀ v, K v M → K' v M') : binA P op t x y M' K' := by
  unfold binA at h
  split at h
  · exact shiftA_mono h hk
  · exact shiftA_mono h hk
  · rename_i h1 h2
    cases op <;> first | exact payK_mono h fun h => intA_mono h hk | exact (payK_iff.1 h).2.elim
  · cases op <;> exact strA_mono h hk
  · rename_i h1 h2
    unfold binA
    split
    all_goals first | (rename_i h3; cases h3) | skip
    all_goals first | exact eqT_mono h fun _ h => hk _ h | (exfalso; first | exact h1 _ _ _ _ rfl rfl | exact h2 _ _ rfl rfl | contradiction | simp_all)
  · rename_i h1 h2
    unfold binA
    split
    all_goals first | (rename_i h3; cases h3) | skip
    all_goals first | exact eqT_mono h fun _ h => hk _ h | (exfalso; first | exact h1 _ _ _ _ rfl rfl | exact h2 _ _ rfl rfl | contradiction | simp_all)
  · exact h.elim

theorem unA_to {op : UnOp} {x : AV} (h : unA op x M K) (hk : ∀ v, K v M → K' v M') : unA op x M' K' := by
  cases op <;> cases x <;> first | exact h.elim | exact hk _ h

theorem showK_to {n : Nat} {x : AV} {R R' : List AV → Prop} (h : showK M n R x) (hm : ∀ id off len cap, x = .sl id off len cap → id < M.length → M'[id]? = M[id]?) (hr : ∀ v, R v → R' v) : showK M' n R' x := by
  cases x <;> first | exact h.elim | skip
  · exact hr _ h
  · obtain ⟨o, h1, h2⟩ := getK_iff.1 h
    refine getK_iff.2 ⟨o, (hm _ _ _ _ rfl (List.getElem?_eq_some_iff.1 h1).1).trans h1, ?_⟩
    cases o <;> first | exact h2.elim | exact payK_mono h2 (hr _)
  · exact payK_mono h (hr _)

theorem convA_to {s d : TypeId} {x : AV} (h : convA P s d x M K) (hd : ∀ el, P.underlying d ≠ some (.slice el)) (hm : ∀ id off len cap, x = .sl id off len cap → id < M.length → M'[id]? = M[id]?) (hm' : ∀ id off, x = .ptr id off → id < M.length → M'[id]? = M[id]?) (hk : ∀ v, K v M → K' v M') : convA P s d x M' K' := by
  obtain ⟨ds, h1, h⟩ := descK_iff.1 h
  obtain ⟨dd, h2, h⟩ := descK_iff.1 h
  refine descK_iff.2 ⟨ds, h1, descK_iff.2 ⟨dd, h2, ?_⟩⟩
  split at h
  · exact hk _ h
  · exact hk _ h
  · exact absurd h2 (hd _)
  · refine descK_mono h fun de h => ?_
    split at h
    · exact showK_to h hm fun _ h => payK_mono h (hk _)
    · exact h.elim
  · exact infoK_mono h fun i h => payK_mono h fun h => atK_to h hm' fun _ h => headK_mono h fun _ h => hk _ h
  · exact h.elim

theorem boundK_to {e e' : Env} {m : Nat} {x : Operand} {R R' : Nat → Prop} (h : boundK e m R x) (he : evV e' x = evV e x) (hr : ∀ n, R n → R' n) : boundK e' m R' x :=
  evK_to h he fun _ _ h => numK_mono h fun _ _ h => payK_mono h (hr _)

theorem lowK_to {e e' : Env} {lo : Option Operand} {a b : Nat} {R R' : Nat → Nat → Nat → Prop} (h : lowK e lo R a b) (he : ∀ x, lo = some x → evV e' x = evV e x) (hr : ∀ l h m, R l h m → R' l h m) : lowK e' lo R' a b := by
  cases lo with
  | none => exact hr _ _ _ h
  | some x =>
    have h : boundK e a (fun l => R l a b) x := h
    exact boundK_to (R' := fun l => R' l a b) h (he x rfl) fun _ h => hr _ _ _ h

theorem boundsK_to {e e' : Env} {lo hi mx : Option Operand} {a b : Nat} {R R' : Nat → Nat → Nat → Prop} (h : boundsK e a b R lo hi mx) (h1 : ∀ x, lo = some x → evV e' x = evV e x) (h2 : ∀ x, hi = some x → evV e' x = evV e x) (h3 : ∀ x, mx = some x → evV e' x = evV e x)
    (hr : ∀ l h m, R l h m → R' l h m) : boundsK e' a b R' lo hi mx := by
  cases mx with
  | some x =>
    cases hi with
    | none =>
      have h : boundK e b (fun _ => False) x := h
      exact boundK_to (R' := fun _ => False) h (h3 x rfl) fun m h => h
    | some y =>
      have h : boundK e b (fun m => boundK e m (fun h => lowK e lo R h m) y) x := h
      exact boundK_to (R' := fun m => boundK e' m (fun h => lowK e' lo R' h m) y) h (h3 x rfl) fun m h => boundK_to h (h2 y rfl) fun _ h => lowK_to h h1 hr
  | none =>
    cases hi with
    | none =>
      have h : lowK e lo R a b := h
      exact lowK_to h h1 hr
    | some y =>
      have h : boundK e b (fun h => lowK e lo R h b) y := h
      exact boundK_to (R' := fun h => lowK e' lo R' h b) h (h2 y rfl) fun _ h => lowK_to h h1 hr

theorem sliceA_to {e e' : Env} {t : TypeId} {x : AV} {lo hi mx : Option Operand} (h : sliceA P e t x lo hi mx M K) (h1 : ∀ x, lo = some x → evV e' x = evV e x) (h2 : ∀ x, hi = some x → evV e' x = evV e x) (h3 : ∀ x, mx = some x → evV e' x = evV e x)
    (hm : ∀ id, (∃ off len cap, x = .sl id off len cap) ∨ (∃ off, x = .ptr id off) → id < M.length → M'[id]? = M[id]?) (hk : ∀ v, K v M → K' v M') : sliceA P e' t x lo hi mx M' K' := by
  refine descK_mono h fun d h => ?_
  split at h
  · cases mx with
    | some x => exact h.elim
    | none => exact boundsK_to h h1 h2 (by simp) fun _ _ _ h => hk _ h
  · refine boundsK_to h h1 h2 h3 fun l b m h => sizeK_mono h fun n h => ?_
    obtain ⟨o, g1, g2⟩ := getK_iff.1 h
    refine getK_iff.2 ⟨o, (hm _ (.inl ⟨_, _, _, rfl⟩) (List.getElem?_eq_some_iff.1 g1).1).trans g1, ?_⟩
    cases o with
    | dead => exact g2.elim
    | obj o => exact g2.elim
    | cells ek cs =>
      cases ek with
      | none => exact hk _ g2
      | some z => exact payK_mono g2 fun g2 => testK_mono g2 (hk _) (hk _)
  · cases mx with
    | some x => exact h.elim
    | none => exact boundsK_to h h1 h2 (by simp) fun _ _ _ h => sizeK_mono h fun n h => payK_mono h fun h => testK_mono h (hk _) (hk _)
  · exact boundsK_to h h1 h2 h3 fun _ _ _ h => sizeK_mono h fun n h => hk _ h
  · refine boundsK_to h h1 h2 h3 fun l b m h => sizeK_mono h fun n h => ?_
    obtain ⟨o, g1, g2⟩ := getK_iff.1 h
    refine getK_iff.2 ⟨o, (hm _ (.inr ⟨_, rfl⟩) (List.getElem?_eq_some_iff.1 g1).1).trans g1, ?_⟩
    cases o with
    | dead => exact g2.elim
    | obj o => exact g2.elim
    | cells ek cs =>
      cases ek with
      | none => exact hk _ g2
      | some z => exact g2.elim
  · exact h.elim

theorem fieldAddrA_to {t : TypeId} {x : AV} {f : Nat} (h : fieldAddrA P t x f M K) (hk : ∀ v, K v M → K' v M') : fieldAddrA P t x f M' K' := by
  refine descK_mono h fun d h => ?_
  cases d <;> first | exact h.elim | skip
  rename_i fs
  dsimp only at h ⊢
  cases hf : fs[f]? with
  | none => rw [hf] at h; exact h.elim
  | some fl =>
    rw [hf] at h
    refine sizeK_mono h fun n h => payK_mono h fun h => ?_
    cases x <;> first | exact h.elim | exact hk _ h | exact dropK_mono h fun _ h => hk _ h

theorem fieldA_to {t : TypeId} {x : AV} {f : Nat} (h : fieldA P t x f M K) (hk : ∀ v, K v M → K' v M') : fieldA P t x f M' K' := by
  cases x <;> first | exact h.elim | skip
  refine descK_mono h fun d h => ?_
  cases d <;> first | exact h.elim | skip
  rename_i fs
  dsimp only at h ⊢
  cases hf : fs[f]? with
  | none => rw [hf] at h; exact h.elim
  | some fl => rw [hf] at h; exact partK_mono h hk

theorem indexAddrA_to {t : TypeId} {x i : AV} (h : indexAddrA P t x i M K) (hk : ∀ v, K v M → K' v M') : indexAddrA P t x i M' K' := by
  refine numK_mono h fun k n h => descK_mono h fun d h => ?_
  split at h
  · exact payK_mono h fun h => sizeK_mono h fun _ h => hk _ h
  · exact payK_mono h fun h => sizeK_mono h fun _ h => hk _ h
  · exact payK_mono h fun h => sizeK_mono h fun _ h => dropK_mono h fun _ h => hk _ h
  · exact h.elim

theorem indexA_to {t : TypeId} {x i : AV} (h : indexA P t x i M K) (hk : ∀ v, K v M → K' v M') : indexA P t x i M' K' := by
  refine numK_mono h fun k n h => descK_mono h fun d h => ?_
  split at h
  · exact payK_mono h fun h => sizeK_mono h fun _ h => partK_mono h hk
  · exact payK_mono h (hk _)
  · exact h.elim

theorem extractA_to {x : AV} {i : Nat} (h : extractA x i M K) (hk : ∀ v, K v M → K' v M') : extractA x i M' K' := by
  cases x <;> first | exact h.elim | exact getK_mono h hk

theorem minsK_mono {R R' : Int → Prop} (hr : ∀ n, R n → R' n) {k : IntKind} : ∀ {l : List AV} {a : Int}, minsK R k a l → minsK R' k a l
  | [], _, h => hr _ h
  | v :: l, _, h => by
    unfold minsK at h ⊢
    cases v <;> first | exact h.elim | exact payK_mono h (minsK_mono hr)
theorem maxsK_mono {R R' : Int → Prop} (hr : ∀ n, R n → R' n) {k : IntKind} : ∀ {l : List AV} {a : Int}, maxsK R k a l → maxsK R' k a l
  | [], _, h => hr _ h
  | v :: l, _, h => by
    unfold maxsK at h ⊢
    cases v <;> first | exact h.elim | exact payK_mono h (maxsK_mono hr)

def pureB : Builtin → Bool
  | .len | .cap | .min | .max => true
  | _ => false

theorem builtinA_to {b : Builtin} {ts : Array TypeId} {l : List AV} (hb : pureB b = true) (h : builtinA P b ts l M K) (hm : ∀ id off len cap, b = .cap → l = [.sl id off len cap] → id < M.length → M'[id]? = M[id]?) (hk : ∀ v, K v M → K' v M') : builtinA P b ts l M' K' := by
  unfold builtinA at h
  split at h
  · unfold builtinA
    dsimp only
    split at h
    · rename_i t ht
      refine descK_mono h fun d h => ?_
      split at h
      · exact hk _ h
      · exact h.elim
      · exact hk _ h
      · exact h.elim
      · exact lenK_mono h fun _ h => hk _ h
      · exact h.elim
    · exact h.elim
  · unfold builtinA
    dsimp only
    split at h
    · rename_i t ht
      refine descK_mono h fun d h => ?_
      split at h
      · exact hk _ h
      · obtain ⟨o, g1, g2⟩ := getK_iff.1 h
        refine getK_iff.2 ⟨o, (hm _ _ _ _ rfl rfl (List.getElem?_eq_some_iff.1 g1).1).trans g1, ?_⟩
        cases o with
        | dead => exact g2.elim
        | obj o => exact g2.elim
        | cells ek cs =>
          cases ek with
          | none => exact hk _ g2
          | some z => exact g2.elim
      · exact h.elim
    · exact h.elim
  · cases hb
  · cases hb
  · exact minsK_mono (fun _ h => hk _ h) h
  · exact maxsK_mono (fun _ h => hk _ h) h
  · exact h.elim

end
end Go.Am
end
section
namespace Go.Am
open Go

variable {P : Program} {O : Type} {M M' : Mem O} {K K' : AV → Mem O → Prop} {e e' : Env}

def notVs : Op → Bool
  | .buildSlice _ _ _ => false
  | _ => true

/-- a pure operation elsewhere -/
theorem opA_move {o : Op} (hp : pureOp P o = true) (hv : notVs o = true) (h : opA P o e M K) (he : ∀ x, x ∈ o.operands → evV e' x = evV e x) (hm : ∀ L, readsA e (fun R => R = L) o → ∀ i, i ∈ L → i < M.length → M'[i]? = M[i]?) (hk : ∀ v, K v M → K' v M') : opA P o e' M' K' := by
  cases o with
  | move x => exact evK_to h (he x (by simp [Op.operands])) fun v _ h => hk v h
  | assign x => exact evK_to h (he x (by simp [Op.operands])) fun v _ h => hk v h
  | pick c a b =>
    refine evK_to h (he c (by simp [Op.operands])) fun v _ h => bitK_mono h fun t h => ?_
    cases t
    · exact evK_to h (he b (by simp [Op.operands])) fun v _ h => hk v h
    · exact evK_to h (he a (by simp [Op.operands])) fun v _ h => hk v h
  | build t ps => exact partsK_to h (fun x hx => he x (by simpa [Op.operands] using hx)) fun v h => buildA_to h hk
  | buildSlice t n ps => cases hv
  | load t a =>
    refine evK_to h (he a (by simp [Op.operands])) fun p hp h => loadA_to h (fun id off hid hlt => hm [id] (evK_iff.2 ⟨p, hp, by rw [hid]⟩) id (by simp) hlt) hk
  | nilCheck x => exact evK_to h (he x (by simp [Op.operands])) fun v _ h => nilCheckA_to h hk
  | binOp op t x y u => exact evK_to h (he x (by simp [Op.operands])) fun v _ h => evK_to h (he y (by simp [Op.operands])) fun v _ h => binA_to h hk
  | unOp op t x => exact evK_to h (he x (by simp [Op.operands])) fun v _ h => unA_to h hk
  | convert s d x =>
    refine evK_to h (he x (by simp [Op.operands])) fun p hp' h => convA_to h (fun el hel => ?_) (fun id off len cap hid hlt => hm [id] (evK_iff.2 ⟨p, hp', by rw [hid]⟩) id (by simp) hlt) (fun id off hid hlt => hm [id] (evK_iff.2 ⟨p, hp', by rw [hid]⟩) id (by simp) hlt) hk
    simp [pureOp, hel] at hp
  | slice t x lo hi mx =>
    refine evK_to h (he x (by simp [Op.operands])) fun p hp h => sliceA_to h (fun y hy => he y (by simp [Op.operands, hy])) (fun y hy => he y (by simp [Op.operands, hy])) (fun y hy => he y (by simp [Op.operands, hy])) (fun id hid hlt => ?_) hk
    refine hm [id] (evK_iff.2 ⟨p, hp, ?_⟩) id (by simp) hlt
    rcases hid with ⟨off, len, cap, rfl⟩ | ⟨off, rfl⟩ <;> rfl
  | fieldAddr t x f => exact evK_to h (he x (by simp [Op.operands])) fun v _ h => fieldAddrA_to h hk
  | field t x f => exact evK_to h (he x (by simp [Op.operands])) fun v _ h => fieldA_to h hk
  | indexAddr t x i => exact evK_to h (he x (by simp [Op.operands])) fun v _ h => evK_to h (he i (by simp [Op.operands])) fun v _ h => indexAddrA_to h hk
  | index t x i => exact evK_to h (he x (by simp [Op.operands])) fun v _ h => evK_to h (he i (by simp [Op.operands])) fun v _ h => indexA_to h hk
  | extract x i => exact evK_to h (he x (by simp [Op.operands])) fun v _ h => extractA_to h hk
  | call c =>
    obtain ⟨callee, args, ts⟩ := c
    cases callee with
    | builtin b =>
      have hb : pureB b = true := by cases b <;> first | rfl | (simp [pureOp] at hp)
      obtain ⟨l, hl, h⟩ : ∃ l, evsK e (fun r => r = l) args.toList ∧ builtinA P b ts l M K := by
        have : ∀ {l : List Operand} {R : List AV → Prop}, evsK e R l → ∃ vs, evsK e (fun r => r = vs) l ∧ R vs := by
          intro l
          induction l with
          | nil => intro R h; exact ⟨[], rfl, h⟩
          | cons x l ih =>
            intro R h
            obtain ⟨v, h1, h2⟩ := evK_iff.1 h
            obtain ⟨vs, h3, h4⟩ := ih h2
            exact ⟨v :: vs, evK_iff.2 ⟨v, h1, evsK_to h3 (fun _ _ => rfl) fun _ h => by rw [h]⟩, h4⟩
        exact this h
      refine evsK_to hl (fun x hx => he x (by simpa [Op.operands, Call.operands] using hx)) fun v hv => ?_
      subst hv
      refine builtinA_to hb h (fun id off len cap hc hlc hlt => ?_) hk
      subst hc; subst hlc
      refine hm [id] ?_ id (by simp) hlt
      simp only [readsA]
      cases hal : args.toList with
      | nil => rw [hal] at hl; simp [evsK] at hl
      | cons x r =>
        rw [hal] at hl
        obtain ⟨v, h1, h2⟩ := evK_iff.1 hl
        cases r with
        | nil =>
          simp [evsK] at h2
          subst h2
          exact evK_iff.2 ⟨_, h1, rfl⟩
        | cons y r =>
          obtain ⟨v2, h3, h4⟩ := evK_iff.1 h2
          obtain ⟨vs, h5, h6⟩ : ∃ vs, True ∧ v :: v2 :: vs = [AV.sl id off len cap] := by
            have : ∀ {l : List Operand} {R : List AV → Prop}, evsK e R l → ∃ vs, R vs := by
              intro l
              induction l with
              | nil => intro R h; exact ⟨_, h⟩
              | cons x l ih => intro R h; obtain ⟨v, h1, h2⟩ := evK_iff.1 h; obtain ⟨vs, h3⟩ := ih h2; exact ⟨_, h3⟩
            obtain ⟨vs, h⟩ := this h4
            exact ⟨vs, trivial, h⟩
          simp at h6
    | _ => simp [pureOp] at hp
  | _ => simp [pureOp] at hp

/-- .. a slice literal too -/
theorem pureA_move {o : Op} {K K' : AV → Prop} (hp : pureOp P o = true) (h : pureA P o e M K) (he : ∀ x, x ∈ o.operands → evV e' x = evV e x) (hm : ∀ L, readsA e (fun R => R = L) o → ∀ i, i ∈ L → i < M.length → M'[i]? = M[i]?) (hk : ∀ v, K v → K' v) : pureA P o e' M' K' := by
  by_cases hv : notVs o = true
  · have h1 : ∀ (e : Env) (M : Mem O) (K : AV → Prop), pureA P o e M K = opA P o e M fun v _ => K v := by
      intro e M K
      cases o <;> first | rfl | cases hv
    rw [h1] at h ⊢
    exact opA_move hp hv h he hm hk
  · cases o <;> first | exact absurd rfl hv | skip
    exact partsK_to h (fun x hx => he x (by simpa [Op.operands] using hx)) fun v h => rowK_mono h fun _ _ h => hk _ h

/-- the memory stays -/
theorem pureA_op {o : Op} {K : AV → Prop} (hp : pureOp P o = true) (hv : notVs o = true) (h : pureA P o e M K) : opA P o e M fun v M' => M' = M ∧ K v := by
  have h1 : pureA P o e M K = opA P o e M fun v _ => K v := by
    cases o <;> first | rfl | cases hv
  rw [h1] at h
  exact opA_move hp hv h (fun _ _ => rfl) (fun _ _ _ _ _ => rfl) fun v h => ⟨rfl, h⟩

theorem ChOk.refl (M : Mem O) (ch : List Nat) : ChOk M M ch := ⟨Nat.le_refl _, fun _ _ _ => rfl⟩
theorem ChOk.push (M : Mem O) (l : Mem O) (ch : List Nat) : ChOk M (M ++ l) ch := ⟨by simp, fun i hi _ => List.getElem?_append_left hi⟩
theorem ChOk.set (M : Mem O) (id : Nat) (o : AO O) : ChOk M (M.set id o) [id] := ⟨by simp, fun i _ h => by
  rw [List.getElem?_set_ne]; intro h1; exact h (by simp [h1])⟩
theorem ChOk.setpush (M : Mem O) (id : Nat) (o : AO O) (l : Mem O) : ChOk M (M.set id o ++ l) [id] := ⟨by simp, fun i hi h => by
  rw [List.getElem?_append_left (by simpa using hi)]
  rw [List.getElem?_set_ne]; intro h1; exact h (by simp [h1])⟩

theorem storeA_to {t : TypeId} {id off : Nat} {v : AV} (h : storeA P t (.ptr id off) v M K) (hk : ∀ v M', K v M' → ChOk M M' [id] → K' v M') : storeA P t (.ptr id off) v M K' := by
  unfold storeA at h ⊢
  refine sizeK_mono h fun n h => payK_mono h fun h => getK_mono h fun o h => ?_
  cases o <;> first | exact h.elim | skip
  refine putK_mono h fun cs h => ?_
  obtain ⟨h1, h2⟩ := setK_iff.1 h
  exact setK_iff.2 ⟨h1, hk _ _ h2 (.set _ _ _)⟩

theorem allocA_to {cs : List AV} (h : allocA cs M K) (hk : ∀ v M', K v M' → ChOk M M' [] → K' v M') : allocA cs M K' := by
  have h := appK_iff.1 h
  exact appK_iff.2 (hk _ _ h (.push _ _ _))

theorem makeSliceA_to {t : TypeId} {l c : AV} (h : makeSliceA P t l c M K) (hk : ∀ v M', K v M' → ChOk M M' [] → K' v M') : makeSliceA P t l c M K' := by
  refine numK_mono h fun _ a h => numK_mono h fun _ b h => descK_mono h fun d h => ?_
  cases d <;> first | exact h.elim | skip
  refine infoK_mono h fun i h => payK_mono h fun h => zeroK_mono h fun z h => payK_mono h fun h => ?_
  have h := appK_iff.1 h
  exact appK_iff.2 (hk _ _ h (.push _ _ _))

theorem convA_act {s d : TypeId} {x : AV} (h : convA P s d x M K) (hk : ∀ v M', K v M' → ChOk M M' [] → K' v M') : convA P s d x M K' := by
  obtain ⟨ds, h1, h⟩ := descK_iff.1 h
  obtain ⟨dd, h2, h⟩ := descK_iff.1 h
  refine descK_iff.2 ⟨ds, h1, descK_iff.2 ⟨dd, h2, ?_⟩⟩
  split at h
  · exact hk _ _ h (.refl _ _)
  · exact hk _ _ h (.refl _ _)
  · refine descK_mono h fun de h => ?_
    split at h
    · have h := appK_iff.1 h
      exact appK_iff.2 (hk _ _ h (.push _ _ _))
    · exact h.elim
  · refine descK_mono h fun de h => ?_
    split at h
    · exact showK_to h (fun _ _ _ _ _ _ => rfl) fun _ h => payK_mono h fun h => hk _ _ h (.refl _ _)
    · exact h.elim
  · exact infoK_mono h fun i h => payK_mono h fun h => atK_to h (fun _ _ _ _ => rfl) fun _ h => headK_mono h fun _ h => hk _ _ h (.refl _ _)
  · exact h.elim

theorem newsK_mono {inf : TypeInfo} {x : AV} {R R' : List AV → Prop} (h : newsK M inf x R) (hr : ∀ l, R l → R' l) : newsK M inf x R' := by
  unfold newsK at h ⊢
  split at h
  · exact payK_mono h (hr _)
  · rename_i hx
    exact showK_to h (fun _ _ _ _ _ _ => rfl) hr

theorem growK_mono {el : TypeId} {inf : TypeInfo} {need : Nat} {R R' : Prop} (h : growK P el inf need R) (hr : R → R') : growK P el inf need R' :=
  payK_mono h fun h => zeroK_mono h fun _ h => payK_mono h hr

theorem pushA_to {el : TypeId} {inf : TypeInfo} {n : Nat} {new : List AV} {s : AV} {ch : List Nat} (hs : s = .nilS ∨ ∃ id off len cap, s = .sl id off len cap ∧ id ∈ ch) (h : pushA P el inf n new s M K) (hk : ∀ v M', K v M' → ChOk M M' ch → K' v M') : pushA P el inf n new s M K' := by
  rcases hs with rfl | ⟨id, off, len, cap, rfl, hid⟩
  · refine testK_mono h (fun h => hk _ _ h (.refl _ _)) fun h => growK_mono h fun h => ?_
    have h := appK_iff.1 h
    exact appK_iff.2 (hk _ _ h (.push _ _ _))
  · have up : ∀ {M' : Mem O}, ChOk M M' [id] → ChOk M M' ch := fun h => ⟨h.1, fun i hi hn => h.2 i hi (by simp; rintro rfl; exact hn hid)⟩
    refine testK_mono h (fun h => getK_mono h fun o h => ?_) fun h => growK_mono h fun h => getK_mono h fun o h => ?_
    · cases o <;> first | exact h.elim | skip
      refine putK_mono h fun cs h => ?_
      obtain ⟨h1, h2⟩ := setK_iff.1 h
      exact setK_iff.2 ⟨h1, hk _ _ h2 (up (.set _ _ _))⟩
    · cases o with
      | dead => exact h.elim
      | obj o => exact h.elim
      | cells ek cs =>
        cases ek with
        | none =>
          refine payK_mono h fun h => ?_
          have h := appK_iff.1 h
          exact appK_iff.2 (hk _ _ h (.push _ _ _))
        | some z =>
          refine payK_mono h fun h => ?_
          obtain ⟨h1, h2⟩ := setK_iff.1 h
          have h2 := appK_iff.1 h2
          exact setK_iff.2 ⟨h1, appK_iff.2 (hk _ _ h2 (up (.setpush _ _ _ _)))⟩

theorem appendA_to {ts : Array TypeId} {s x : AV} {ch : List Nat} (hs : s = .nilS ∨ ∃ id off len cap, s = .sl id off len cap ∧ id ∈ ch) (h : appendA P ts s x M K) (hk : ∀ v M', K v M' → ChOk M M' ch → K' v M') : appendA P ts s x M K' := by
  unfold appendA at h ⊢
  cases h0 : ts[0]? with
  | none => rw [h0] at h; exact h.elim
  | some t =>
    cases h1 : ts[1]? with
    | none => rw [h0, h1] at h; exact h.elim
    | some u =>
      rw [h0, h1] at h
      refine descK_mono h fun d h => descK_mono h fun du h => ?_
      cases d <;> first | exact h.elim | skip
      exact payK_mono h fun h => infoK_mono h fun inf h => lenK_mono h fun n h => newsK_mono h fun l h => pushA_to hs h hk

theorem copyA_to {ts : Array TypeId} {d s : AV} {ch : List Nat} (hs : d = .nilS ∨ ∃ id off len cap, d = .sl id off len cap ∧ id ∈ ch) (h : copyA P ts d s M K) (hk : ∀ v M', K v M' → ChOk M M' ch → K' v M') : copyA P ts d s M K' := by
  unfold copyA at h ⊢
  cases h0 : ts[0]? with
  | none => rw [h0] at h; exact h.elim
  | some t =>
    rw [h0] at h
    refine descK_mono h fun dd h => ?_
    cases dd <;> first | exact h.elim | skip
    refine infoK_mono h fun inf h => lenK_mono h fun n h => lenK_mono h fun m h => newsK_mono h fun l h => ?_
    rcases hs with rfl | ⟨id, off, len, cap, rfl, hid⟩
    · exact hk _ _ h (.refl _ _)
    · have up : ∀ {M' : Mem O}, ChOk M M' [id] → ChOk M M' ch := fun h => ⟨h.1, fun i hi hn => h.2 i hi (by simp; rintro rfl; exact hn hid)⟩
      refine getK_mono h fun o h => ?_
      cases o <;> first | exact h.elim | skip
      refine putK_mono h fun cs h => ?_
      obtain ⟨h1, h2⟩ := setK_iff.1 h
      exact setK_iff.2 ⟨h1, hk _ _ h2 (up (.set _ _ _))⟩

/-- a call may be asked less; what it says of the old objects comes for nothing -/
def COk (C : CallP O) : Prop := ∀ f args M (R R' : AV → Mem O → List Nat → Prop), C f args M R → (∀ v M' ch, R v M' ch → ChOk M M' ch → R' v M' ch) → C f args M R'

/-- an acting operation with other slots -/
theorem actA_to {C : CallP O} (hC : COk C) {o : Op} {K K' : AV → Mem O → List Nat → Prop} (h : actA P C o e M K) (he : ∀ x, x ∈ o.operands → evV e' x = evV e x) (hk : ∀ v M' ch, K v M' ch → ChOk M M' ch → K' v M' ch) : actA P C o e' M K' := by
  unfold actA at h ⊢
  cases hc : isCall o with
  | some c =>
    rw [hc] at h
    have hop : o = .call c := by
      unfold isCall at hc
      split at hc
      · split at hc
        · cases hc; rfl
        · cases hc
      · cases hc
    subst hop
    dsimp only at h ⊢
    unfold callA at h ⊢
    cases hcc : c.callee with
    | value x =>
      rw [hcc] at h
      refine evK_to h (he x (by simp [Op.operands, Call.operands, hcc])) fun v _ h => ?_
      cases v <;> first | exact h.elim | skip
      exact evsK_to h (fun y hy => he y (by simp [Op.operands, Call.operands, hcc]; exact .inr (by simpa using hy))) fun l h => hC _ _ _ _ _ h hk
    | _ => rw [hcc] at h; exact h.elim
  | none =>
    rw [hc] at h
    cases o with
    | store t a x =>
      refine evK_to h (he a (by simp [Op.operands])) fun p _ h => ?_
      cases p <;> first | exact h.elim | skip
      exact evK_to h (he x (by simp [Op.operands])) fun v _ h => storeA_to h fun v M' h hch => hk _ _ _ h hch
    | alloc t =>
      have h : zeroK P (fun z => allocA z M fun v M' => K v M' []) t := h
      exact zeroK_mono (R' := fun z => allocA z M fun v M' => K' v M' []) h fun z h => allocA_to h fun v M' h hch => hk _ _ _ h hch
    | box t x =>
      have h : evK e (fun v => payK v.storable (allocA v.cs M fun v M' => K v M' [])) x := h
      exact evK_to (R' := fun v => payK v.storable (allocA v.cs M fun v M' => K' v M' [])) h (he x (by simp [Op.operands])) fun v _ h => payK_mono h fun h => allocA_to h fun v M' h hch => hk _ _ _ h hch
    | makeSlice t l c =>
      have h : evK e (fun a => evK e (fun b => makeSliceA P t a b M fun v M' => K v M' []) c) l := h
      exact evK_to (R' := fun a => evK e' (fun b => makeSliceA P t a b M fun v M' => K' v M' []) c) h (he l (by simp [Op.operands])) fun v _ h => evK_to h (he c (by simp [Op.operands])) fun v _ h => makeSliceA_to h fun v M' h hch => hk _ _ _ h hch
    | convert s d x =>
      have h : evK e (fun v => convA P s d v M fun v M' => K v M' []) x := h
      exact evK_to (R' := fun v => convA P s d v M fun v M' => K' v M' []) h (he x (by simp [Op.operands])) fun v _ h => convA_act h fun v M' h hch => hk _ _ _ h hch
    | call c =>
      obtain ⟨callee, args, ts⟩ := c
      cases callee with
      | builtin b =>
        have hb : ∀ (K : AV → Mem O → Prop) (e : Env), opA P (.call ⟨.builtin b, args, ts⟩) e M K = evsK e (fun l => builtinA P b ts l M K) args.toList := fun _ _ => rfl
        have hae : ∀ x, x ∈ args.toList → evV e' x = evV e x := fun x hx => he x (by simpa [Op.operands, Call.operands] using hx)
        have two : ∀ (x : Operand) (r : List Operand) {R R' : List AV → Prop} {v : AV}, evV e x = some v → (∀ y, y ∈ x :: r → evV e' y = evV e y) → evsK e R (x :: r) → (∀ l, R (v :: l) → R' (v :: l)) → evsK e' R' (x :: r) := by
          intro x r R R' v hv hy h hr
          obtain ⟨v', h1, h2⟩ := evK_iff.1 h
          rw [hv] at h1; cases h1
          exact evK_iff.2 ⟨v, (hy x (by simp)).trans hv, evsK_to h2 (fun y h => hy y (by simp [h])) fun l h => hr l h⟩
        cases b <;> first | exact h.elim | skip
        · dsimp only at h ⊢
          cases hl : args.toList with
          | nil => rw [hl] at h; exact h.elim
          | cons x r =>
            rw [hl] at h hae
            refine evK_to h (hae x (by simp)) fun p hp h => ?_
            cases p <;> first | exact h.elim | skip
            · dsimp only at h ⊢
              rw [hb, hl] at h ⊢
              refine two x r hp hae h fun l h => ?_
              rcases l with _ | ⟨y, _ | ⟨z, l⟩⟩ <;> first | exact h.elim | skip
              exact appendA_to (ch := []) (.inl rfl) h fun v M' h hch => hk _ _ _ h hch
            · dsimp only at h ⊢
              rw [hb, hl] at h ⊢
              refine two x r hp hae h fun l h => ?_
              rcases l with _ | ⟨y, _ | ⟨z, l⟩⟩ <;> first | exact h.elim | skip
              exact appendA_to (ch := [_]) (.inr ⟨_, _, _, _, rfl, by simp⟩) h fun v M' h hch => hk _ _ _ h hch
        · dsimp only at h ⊢
          cases hl : args.toList with
          | nil => rw [hl] at h; exact h.elim
          | cons x r =>
            rw [hl] at h hae
            refine evK_to h (hae x (by simp)) fun p hp h => ?_
            cases p <;> first | exact h.elim | skip
            · dsimp only at h ⊢
              rw [hb, hl] at h ⊢
              refine two x r hp hae h fun l h => ?_
              rcases l with _ | ⟨y, _ | ⟨z, l⟩⟩ <;> first | exact h.elim | skip
              simp only [builtinA] at h ⊢
              exact copyA_to (ch := []) (.inl rfl) h fun v M' h hch => hk _ _ _ h hch
            · dsimp only at h ⊢
              rw [hb, hl] at h ⊢
              refine two x r hp hae h fun l h => ?_
              rcases l with _ | ⟨y, _ | ⟨z, l⟩⟩ <;> first | exact h.elim | skip
              simp only [builtinA] at h ⊢
              exact copyA_to (ch := [_]) (.inr ⟨_, _, _, _, rfl, by simp⟩) h fun v M' h hch => hk _ _ _ h hch
      | _ => exact h.elim
    | _ => exact h.elim

end Go.Am
end
section
namespace Go.Am
open Go

variable {P : Program} {O : Type}

/-- asked of one value, and no other -/
def Det {α : Type} (F : (α → Prop) → Prop) : Prop := ∀ R, F R → ∃ v, R v ∧ ∀ R' : α → Prop, F R' ↔ R' v

theorem Det.pure {α : Type} (v : α) : Det fun R : α → Prop => R v := fun _ h => ⟨v, h, fun _ => Iff.rfl⟩
theorem Det.none {α : Type} : Det fun _ : α → Prop => False := fun _ h => h.elim
theorem Det.bind {α β : Type} {F : (α → Prop) → Prop} {G : α → (β → Prop) → Prop} (hF : Det F) (hG : ∀ a, Det (G a)) : Det fun R => F fun a => G a R := fun R h => by
  obtain ⟨a, h1, h2⟩ := hF _ h
  obtain ⟨v, h3, h4⟩ := hG a _ h1
  exact ⟨v, h3, fun R' => (h2 _).trans (h4 R')⟩
theorem Det.map {α β : Type} {F : (α → Prop) → Prop} (f : α → β) (hF : Det F) : Det fun R : β → Prop => F fun a => R (f a) := hF.bind fun a => .pure (f a)
theorem Det.test {α : Type} {b : Bool} {F G : (α → Prop) → Prop} (hF : Det F) (hG : Det G) : Det fun R => testK b (F R) (G R) := by
  cases b
  · exact hG
  · exact hF
theorem Det.pay {α : Type} {b : Bool} {F : (α → Prop) → Prop} (hF : Det F) : Det fun R => payK b (F R) := hF.test .none
/-- .. by a known value -/
theorem Det.of {α β : Type} {F : (α → Prop) → Prop} {p : β → Prop} {f : β → α} (h : ∀ R, F R ↔ ∃ v, p v ∧ R (f v)) (hu : ∀ v v', p v → p v' → f v = f v') : Det F := fun R hR => by
  obtain ⟨v, h1, h2⟩ := (h R).1 hR
  refine ⟨f v, h2, fun R' => ⟨fun h3 => ?_, fun h3 => (h R').2 ⟨v, h1, h3⟩⟩⟩
  obtain ⟨v', h4, h5⟩ := (h R').1 h3
  rw [hu v v' h1 h4]; exact h5

theorem Det.get {α : Type} (l : List α) (n : Nat) : Det fun R => getK R l n :=
  .of (p := fun v => l[n]? = some v) (f := id) (fun _ => getK_iff) fun v v' h h' => by rw [h] at h'; exact Option.some.inj h'
theorem Det.take {α : Type} (l : List α) (n : Nat) : Det fun R => takeK R n l :=
  .of (p := fun _ : Unit => n ≤ l.length) (f := fun _ => l.take n) (fun _ => by simp [takeK_iff]) fun _ _ _ _ => rfl
theorem Det.drop {α : Type} (l : List α) (n : Nat) : Det fun R => dropK R n l :=
  .of (p := fun _ : Unit => n ≤ l.length) (f := fun _ => l.drop n) (fun _ => by simp [dropK_iff]) fun _ _ _ _ => rfl
theorem Det.putK {α : Type} (vs l : List α) (n : Nat) : Det fun R => putK vs R n l :=
  .of (p := fun _ : Unit => n + vs.length ≤ l.length) (f := fun _ => l.take n ++ (vs ++ l.drop (n + vs.length))) (fun _ => by simp [putK_iff]) fun _ _ _ _ => rfl
theorem Det.ev (e : Env) (x : Operand) : Det fun R => evK e R x :=
  .of (p := fun v => evV e x = some v) (f := id) (fun _ => evK_iff) fun v v' h h' => by rw [h] at h'; exact Option.some.inj h'
theorem Det.desc (t : TypeId) : Det fun R => descK P R t :=
  .of (p := fun v => P.underlying t = some v) (f := id) (fun _ => descK_iff) fun v v' h h' => by rw [h] at h'; exact Option.some.inj h'
theorem Det.info (t : TypeId) : Det fun R => infoK P R t :=
  .of (p := fun v => P.info? t = some v) (f := id) (fun _ => infoK_iff) fun v v' h h' => by rw [h] at h'; exact Option.some.inj h'
theorem Det.size (t : TypeId) : Det fun R => sizeK P R t := (Det.info t).map fun i => i.size
theorem Det.agg (t : TypeId) : Det fun R => aggK P R t :=
  .of (p := fun v => P.underlying t = some v) (f := isA) (fun _ => aggK_iff) fun v v' h h' => by rw [h] at h'; cases h'; rfl
theorem Det.head (l : List AV) : Det fun R => headK R l := by
  cases l
  · exact .none
  · exact .pure _
theorem Det.reps (z : List AV) (n : Nat) : Det fun R => repsK z R n :=
  .of (p := fun _ : Unit => True) (f := fun _ => (List.replicate n z).flatten) (fun _ => by simp [repsK_iff]) fun _ _ _ _ => rfl

theorem Det.evs (e : Env) : ∀ l : List Operand, Det fun R => evsK e R l
  | [] => .pure []
  | x :: l => (Det.ev e x).bind fun v => (Det.evs e l).map fun vs => v :: vs
theorem Det.parts (e : Env) : ∀ l : List (Nat × Operand), Det fun R => partsK e R l
  | [] => .pure []
  | (i, x) :: l => (Det.ev e x).bind fun v => (Det.parts e l).map fun vs => (i, v) :: vs
theorem Det.cells : ∀ l : List Value, Det fun R => cellsK R l
  | [] => .pure []
  | v :: l => by
    unfold cellsK
    cases v.oneCell'
    · exact .none
    · exact (Det.cells l).map fun r => ofCell v :: r
theorem Det.zero (t : TypeId) : Det fun R => zeroK P R t := (Det.info t).bind fun i => by
  cases i.zero
  · exact .none
  · exact .cells _
theorem Det.fill (place : Nat → Option (Nat × Nat)) : ∀ (l : List (Nat × AV)) (cs : List AV), Det fun R => fillK place R l cs
  | [], cs => .pure cs
  | (i, v) :: l, cs => by
    unfold fillK
    cases place i
    · exact .none
    · exact .pay ((Det.putK _ _ _).bind fun _ => Det.fill place l _)
theorem Det.num (v : AV) : Det fun R : IntKind × Int → Prop => numK (fun k n => R (k, n)) v := by
  cases v <;> first | exact .none | exact .pure _
theorem Det.bit (v : AV) : Det fun R => bitK R v := by
  cases v <;> first | exact .none | exact .pure _
theorem Det.len (v : AV) : Det fun R => lenK R v := by
  cases v <;> first | exact .none | exact .pure _

theorem Det.row (t : TypeId) (len : Nat) (ps : List (Nat × AV)) : Det fun R : List AV → Prop => rowK P t len ps fun _ => R := by
  refine (Det.desc t).bind fun d => ?_
  cases d <;> first | exact .none | skip
  exact (Det.size _).bind fun _ => .pay ((Det.zero _).bind fun _ => .pay ((Det.reps _ _).bind fun _ => Det.fill _ _ _))

theorem Det.part (t : TypeId) (off : Nat) (cs : List AV) : Det fun R => partK P t off R cs := by
  refine (Det.agg t).bind fun d => ?_
  cases d
  · exact (Det.drop _ _).bind fun _ => .head _
  · exact (Det.size _).bind fun _ => (Det.drop _ _).bind fun _ => (Det.take _ _).map _

theorem Det.eqFs {E : TypeId → AV → AV → (Bool → Prop) → Prop} (hE : ∀ t x y, Det (E t x y)) (xs ys : List AV) : ∀ fs : List Field, Det fun R => eqFs P E xs ys R fs
  | [] => .pure true
  | _ :: fs => (Det.part _ _ _).bind fun _ => (Det.part _ _ _).bind fun _ => (hE _ _ _).bind fun r => (Det.eqFs hE xs ys fs).map fun r' => r && r'

theorem Det.eqT : ∀ (n : Nat) (t : TypeId) (x y : AV), Det fun R => eqT P n t x y R
  | 0, _, _, _ => .none
  | n + 1, t, x, y => by
    refine (Det.desc t).bind fun d => ?_
    cases d <;> first | exact .none | skip
    all_goals cases x <;> first | exact .none | skip
    all_goals cases y <;> first | exact .none | exact .pure _ | exact .pay (.pure _) | exact .pay (Det.eqFs (fun t x y => Det.eqT n t x y) _ _ _)

section
variable (M : Mem O)

theorem Det.at (p : AV) : Det fun R => atK M R p := by
  cases p <;> first | exact .none | exact .pure _ | skip
  refine (Det.get _ _).bind fun o => ?_
  cases o <;> first | exact .none | exact .drop _ _

theorem Det.load (t : TypeId) (p : AV) : Det fun R : AV → Prop => loadA P t p M fun v _ => R v := by
  refine (Det.agg t).bind fun d => ?_
  cases d
  · exact (Det.at M p).bind fun _ => .head _
  · exact (Det.size _).bind fun _ => (Det.at M p).bind fun _ => (Det.take _ _).map _

theorem Det.build (t : TypeId) (ps : List (Nat × AV)) : Det fun R : AV → Prop => buildA P t ps M fun v _ => R v := by
  refine (Det.zero t).bind fun z => (Det.desc t).bind fun d => ?_
  cases d <;> first | exact .none | skip
  · exact (Det.size _).bind fun _ => (Det.fill _ _ _).map _
  · exact .pay ((Det.fill _ _ _).map _)

theorem Det.nilCheck (p : AV) : Det fun R : AV → Prop => nilCheckA p M fun v _ => R v := by
  cases p <;> first | exact .none | exact .pure _

theorem Det.int (op : BinOp) (k : IntKind) (x y : Int) : Det fun R => intA op k x y R := by
  cases op <;> first | exact .none | exact .pure _ | exact .pay (.pure _)
theorem Det.shift (op : BinOp) (k : IntKind) (x y : Int) : Det fun R => shiftA op k x y R := by
  cases op <;> first | exact .none | exact .pay (.pure _)
theorem Det.str (op : BinOp) (x y : List UInt8) : Det fun R => strA op x y R := by
  cases op <;> first | exact .none | exact .pure _ | exact .pay (.pure _)

theorem Det.bin (op : BinOp) (t : TypeId) (x y : AV) : Det fun R : AV → Prop => binA P op t x y M fun v _ => R v := by
  have he : Det fun R : AV → Prop => Am.eqT P 6 t x y fun b => R (.bool b) := (Det.eqT 6 t x y).map _
  have hn : Det fun R : AV → Prop => Am.eqT P 6 t x y fun b => R (.bool (!b)) := (Det.eqT 6 t x y).map fun b => AV.bool (!b)
  cases x with
  | int k a =>
    cases y with
    | int k' b => cases op <;> first | exact .pay (Det.int _ k a b) | exact Det.shift .shl k a b | exact Det.shift .shr k a b
    | _ => cases op <;> first | exact Det.none | exact he | exact hn
  | str a =>
    cases y with
    | str b =>
      have h : (fun R : AV → Prop => binA P op t (.str a) (.str b) M fun v _ => R v) = fun R => strA op a b R := by funext R; cases op <;> rfl
      rw [h]
      exact .str _ _ _
    | _ => cases op <;> first | exact Det.none | exact he | exact hn
  | _ => cases y <;> cases op <;> first | exact Det.none | exact he | exact hn

theorem Det.un (op : UnOp) (x : AV) : Det fun R : AV → Prop => unA op x M fun v _ => R v := by
  cases op <;> cases x <;> first | exact .none | exact .pure _

theorem Det.show (n : Nat) (x : AV) : Det fun R => showK M n R x := by
  cases x <;> first | exact .none | exact .pure _ | exact .pay (.pure _) | skip
  refine (Det.get _ _).bind fun o => ?_
  cases o <;> first | exact .none | exact .pay (.pure _)

theorem Det.conv (s d : TypeId) (x : AV) : Det fun R : AV → Prop => convA P s d x M fun v _ => R v := by
  refine (Det.desc s).bind fun ds => (Det.desc d).bind fun dd => ?_
  cases dd with
  | int k => cases ds <;> cases x <;> first | exact Det.none | exact .pure _
  | string =>
    cases ds with
    | string => cases x <;> first | exact Det.none | exact .pure _
    | slice el =>
      refine (Det.desc el).bind fun de => ?_
      cases de with
      | int k =>
        cases k with
        | u8 => exact (Det.show M 1 x).bind fun _ => .pay (.pure _)
        | _ => exact Det.none
      | _ => exact Det.none
    | _ => cases x <;> exact Det.none
  | slice el =>
    cases ds with
    | string =>
      cases x with
      | str s =>
        refine (Det.desc el).bind fun de => ?_
        cases de with
        | int k =>
          cases k with
          | u8 => exact fun R h => ⟨_, appK_iff.1 h, fun R' => appK_iff⟩
          | _ => exact Det.none
        | _ => exact Det.none
      | _ => exact Det.none
    | _ => cases x <;> exact Det.none
  | unsafePointer =>
    cases ds with
    | pointer el =>
      cases x with
      | ptr id off => exact (Det.info el).bind fun i => .pay ((Det.at M (.ptr id off)).bind fun l => (Det.head l).map fun _ => AV.ptr id off)
      | _ => exact Det.none
    | _ => cases x <;> exact Det.none
  | _ => cases ds <;> cases x <;> exact Det.none

theorem Det.bound (e : Env) (m : Nat) (x : Operand) : Det fun R => boundK e m R x := (Det.ev e x).bind fun v => by
  cases v <;> first | exact .none | exact .pay (.pure _)
theorem Det.low (e : Env) (lo : Option Operand) (a b : Nat) : Det fun R : Nat × Nat × Nat → Prop => lowK e lo (fun l h m => R (l, h, m)) a b := by
  cases lo
  · exact .pure _
  · exact (Det.bound e a _).map fun l => (l, a, b)
theorem Det.bounds (e : Env) (a b : Nat) (lo hi mx : Option Operand) : Det fun R : Nat × Nat × Nat → Prop => boundsK e a b (fun l h m => R (l, h, m)) lo hi mx := by
  cases mx with
  | none =>
    cases hi with
    | none => exact Det.low e lo a b
    | some y => exact (Det.bound e b y).bind fun h => Det.low e lo h b
  | some x =>
    cases hi with
    | none => exact (Det.bound e b x).bind fun _ => .none
    | some y => exact (Det.bound e b x).bind fun m => (Det.bound e m y).bind fun h => Det.low e lo h m

theorem Det.boundsG {α : Type} (e : Env) (a b : Nat) (lo hi mx : Option Operand) {G : Nat → Nat → Nat → (α → Prop) → Prop} (hG : ∀ l h m, Det (G l h m)) : Det fun R => boundsK e a b (fun l h m => G l h m R) lo hi mx :=
  Det.bind (F := fun R : Nat × Nat × Nat → Prop => boundsK e a b (fun l h m => R (l, h, m)) lo hi mx) (G := fun r R => G r.1 r.2.1 r.2.2 R) (Det.bounds e a b lo hi mx) fun r => hG r.1 r.2.1 r.2.2

theorem Det.slice (e : Env) (t : TypeId) (x : AV) (lo hi mx : Option Operand) : Det fun R : AV → Prop => sliceA P e t x lo hi mx M fun v _ => R v := by
  refine (Det.desc t).bind fun d => ?_
  cases d with
  | string =>
    cases x with
    | str s =>
      cases mx with
      | none => exact Det.boundsG e _ _ lo hi Option.none fun l h m => .pure _
      | some x => exact Det.none
    | _ => exact Det.none
  | slice el =>
    cases x with
    | nilS => exact Det.boundsG e _ _ lo hi mx fun l h m => (Det.size _).bind fun n => .pure _
    | sl id off len cap =>
      refine Det.boundsG e _ _ lo hi mx fun l h m => (Det.size _).bind fun n => (Det.get _ _).bind fun o => ?_
      cases o with
      | cells ek cs =>
        cases ek with
        | none => exact .pure _
        | some z => exact .pay (.test (.pure _) (.pure _))
      | _ => exact Det.none
    | vs cs len =>
      cases mx with
      | none => exact Det.boundsG e _ _ lo hi Option.none fun l h m => (Det.size _).bind fun n => .pay (.test (.pure _) (.pure _))
      | some x => exact Det.none
    | _ => exact Det.none
  | array n el =>
    cases x with
    | ptr id off =>
      refine Det.boundsG e _ _ lo hi mx fun l h m => (Det.size _).bind fun n => (Det.get _ _).bind fun o => ?_
      cases o with
      | cells ek cs => cases ek <;> first | exact Det.none | exact .pure _
      | _ => exact Det.none
    | _ => exact Det.none
  | _ => exact Det.none

theorem Det.fieldAddr (t : TypeId) (x : AV) (f : Nat) : Det fun R : AV → Prop => fieldAddrA P t x f M fun v _ => R v := by
  refine (Det.desc t).bind fun d => ?_
  cases d <;> first | exact .none | skip
  rename_i fs
  dsimp only
  cases fs[f]? with
  | none => exact .none
  | some fl =>
    refine (Det.size _).bind fun n => .pay ?_
    cases x <;> first | exact .none | exact .pure _ | exact (Det.drop _ _).map _

theorem Det.field (t : TypeId) (x : AV) (f : Nat) : Det fun R : AV → Prop => fieldA P t x f M fun v _ => R v := by
  cases x <;> first | exact .none | skip
  refine (Det.desc t).bind fun d => ?_
  cases d <;> first | exact .none | skip
  rename_i fs
  dsimp only
  cases fs[f]? with
  | none => exact .none
  | some fl => exact .part _ _ _

theorem Det.indexAddr (t : TypeId) (x i : AV) : Det fun R : AV → Prop => indexAddrA P t x i M fun v _ => R v := by
  cases i <;> first | exact .none | skip
  refine (Det.desc t).bind fun d => ?_
  cases d <;> first | exact .none | skip
  all_goals cases x <;> first | exact .none | exact .pay ((Det.size _).map _) | exact .pay ((Det.size _).bind fun _ => (Det.drop _ _).map _)

theorem Det.index (t : TypeId) (x i : AV) : Det fun R : AV → Prop => indexA P t x i M fun v _ => R v := by
  cases i <;> first | exact .none | skip
  refine (Det.desc t).bind fun d => ?_
  cases d <;> first | exact .none | skip
  all_goals cases x <;> first | exact .none | exact .pay (.pure _) | exact .pay ((Det.size _).bind fun _ => .part _ _ _)

theorem Det.extract (x : AV) (i : Nat) : Det fun R : AV → Prop => extractA x i M fun v _ => R v := by
  cases x <;> first | exact .none | exact .get _ _

theorem Det.mins (k : IntKind) : ∀ (l : List AV) (a : Int), Det fun R : Int → Prop => minsK R k a l
  | [], a => .pure a
  | v :: l, a => by
    unfold minsK
    cases v <;> first | exact .none | exact .pay (Det.mins k l _)
theorem Det.maxs (k : IntKind) : ∀ (l : List AV) (a : Int), Det fun R : Int → Prop => maxsK R k a l
  | [], a => .pure a
  | v :: l, a => by
    unfold maxsK
    cases v <;> first | exact .none | exact .pay (Det.maxs k l _)

theorem Det.lenB (ts : Array TypeId) (x : AV) : Det fun R : AV → Prop => builtinA P .len ts [x] M fun v _ => R v := by
  unfold builtinA
  dsimp only
  cases ts[0]? with
  | none => exact Det.none
  | some t =>
    refine (Det.desc t).bind fun d => ?_
    cases d with
    | array n el => exact .pure _
    | string => cases x <;> first | exact Det.none | exact .pure _
    | slice el => cases x <;> first | exact Det.none | exact .pure _
    | _ => exact Det.none

theorem Det.capB (ts : Array TypeId) (x : AV) : Det fun R : AV → Prop => builtinA P .cap ts [x] M fun v _ => R v := by
  unfold builtinA
  dsimp only
  cases ts[0]? with
  | none => exact Det.none
  | some t =>
    refine (Det.desc t).bind fun d => ?_
    cases d with
    | slice el =>
      cases x with
      | nilS => exact .pure _
      | sl id off len cap =>
        refine (Det.get _ _).bind fun o => ?_
        cases o with
        | cells ek cs => cases ek <;> first | exact Det.none | exact .pure _
        | _ => exact Det.none
      | _ => exact Det.none
    | _ => exact Det.none

theorem Det.builtin {b : Builtin} (hb : pureB b = true) (ts : Array TypeId) (l : List AV) : Det fun R : AV → Prop => builtinA P b ts l M fun v _ => R v := by
  cases b with
  | len => rcases l with _ | ⟨x, _ | ⟨y, l⟩⟩ <;> first | exact Det.none | exact .lenB _ _ _
  | cap => rcases l with _ | ⟨x, _ | ⟨y, l⟩⟩ <;> first | exact Det.none | exact .capB _ _ _
  | min =>
    rcases l with _ | ⟨x, l⟩
    · exact Det.none
    · cases x <;> first | exact Det.none | exact (Det.mins _ _ _).map _
  | max =>
    rcases l with _ | ⟨x, l⟩
    · exact Det.none
    · cases x <;> first | exact Det.none | exact (Det.maxs _ _ _).map _
  | _ => cases hb

theorem Det.op {o : Op} (hp : pureOp P o = true) (e : Env) : Det fun R : AV → Prop => pureA P o e M R := by
  cases o with
  | move x => exact .ev _ _
  | assign x => exact .ev _ _
  | pick c a b =>
    refine (Det.ev _ _).bind fun v => (Det.bit v).bind fun t => ?_
    cases t <;> exact .ev _ _
  | build t ps => exact (Det.parts _ _).bind fun _ => .build _ _ _
  | buildSlice t n ps => exact (Det.parts _ _).bind fun _ => (Det.row _ _ _).map _
  | load t a => exact (Det.ev _ _).bind fun _ => .load _ _ _
  | nilCheck x => exact (Det.ev _ _).bind fun _ => .nilCheck _ _
  | binOp op t x y u => exact (Det.ev _ _).bind fun _ => (Det.ev _ _).bind fun _ => .bin _ _ _ _ _
  | unOp op t x => exact (Det.ev _ _).bind fun _ => .un _ _ _
  | convert s d x => exact (Det.ev _ _).bind fun _ => .conv _ _ _ _
  | slice t x lo hi mx => exact (Det.ev _ _).bind fun _ => .slice _ _ _ _ _ _ _
  | fieldAddr t x f => exact (Det.ev _ _).bind fun _ => .fieldAddr _ _ _ _
  | field t x f => exact (Det.ev _ _).bind fun _ => .field _ _ _ _
  | indexAddr t x i => exact (Det.ev _ _).bind fun _ => (Det.ev _ _).bind fun _ => .indexAddr _ _ _ _
  | index t x i => exact (Det.ev _ _).bind fun _ => (Det.ev _ _).bind fun _ => .index _ _ _ _
  | extract x i => exact (Det.ev _ _).bind fun _ => .extract _ _ _
  | call c =>
    obtain ⟨callee, args, ts⟩ := c
    cases callee with
    | builtin b =>
      have hb : pureB b = true := by cases b <;> first | rfl | (simp [pureOp] at hp)
      exact (Det.evs _ _).bind fun _ => .builtin M hb _ _
    | _ => simp [pureOp] at hp
  | _ => simp [pureOp] at hp

end
end Go.Am
end
section
namespace Go.Am
open Go

variable {P : Program} {O : Type} {C : CallP O} {ops : List Oper} {an : List Nat}

def wantsA (ops : List Oper) (e : Env) : Option (Nat × Bool) → Option Bool
  | none => some true
  | some (j, want) => match ops[j]? with
    | some o => match o.dst with
      | some t => match e[t]? with
        | some (.bool b) => some (if b then want else !want)
        | some (.tup _) => some false
        | _ => none
      | none => none
    | none => none

theorem guardK_iff {R : Bool → Env → Prop} {e : Env} {g : Option (Nat × Bool)} : guardK ops R e g ↔ ∃ b, wantsA ops e g = some b ∧ R b e := by
  cases g with
  | none => simp [guardK, wantsA]
  | some x =>
    obtain ⟨j, want⟩ := x
    simp only [guardK, wantsA]
    rw [getK_iff]
    cases ho : ops[j]? with
    | none => simp
    | some o =>
      simp only [Option.some.injEq, exists_eq_left']
      cases o.dst with
      | none => simp
      | some t =>
        simp only
        rw [getK_iff]
        cases hv : e[t]? with
        | none => simp
        | some v =>
          simp only [Option.some.injEq, exists_eq_left']
          obtain ⟨hlt, hev⟩ := List.getElem?_eq_some_iff.1 hv
          cases v with
          | bool b =>
            simp only [Option.some.injEq, exists_eq_left', testK_iff, setK_iff]
            cases b with
            | true =>
              have : e.set t (.bool true) = e := by rw [← hev]; exact List.set_getElem_self hlt
              simp [this, hlt]
            | false =>
              have : e.set t (.bool false) = e := by rw [← hev]; exact List.set_getElem_self hlt
              simp [this, hlt]
          | tup l => simp
          | _ => simp

def putV (e : Env) (dst : Option Tmp) (v : AV) : Env := match dst with
  | none => e
  | some t => e.set t v

theorem putE_iff {R : Env → Prop} {v : AV} {e : Env} {dst : Option Tmp} : putE R v e dst ↔ (∀ t, dst = some t → t < e.length) ∧ R (putV e dst v) := by
  cases dst with
  | none => simp [putE, putV]
  | some t => simp [putE, putV, setK_iff]

theorem putV_length (e : Env) (dst : Option Tmp) (v : AV) : (putV e dst v).length = e.length := by cases dst <;> simp [putV]

theorem putV_comm (e : Env) {x y : Option Tmp} (u v : AV) (h : ∀ t, x = some t → y ≠ some t) : putV (putV e x u) y v = putV (putV e y v) x u := by
  cases x with
  | none => rfl
  | some a =>
    cases y with
    | none => rfl
    | some b =>
      have : a ≠ b := fun h1 => h a rfl (by rw [h1])
      exact List.set_comm _ _ this

/-- the same to an operation's eyes -/
structure Sees (ops : List Oper) (o : Oper) (e e' : Env) : Prop where
  ev : ∀ x, x ∈ o.op.operands → evV e' x = evV e x
  want : wantsA ops e' o.guard = wantsA ops e o.guard

theorem Sees.refl (o : Oper) (e : Env) : Sees ops o e e := ⟨fun _ _ => rfl, rfl⟩
theorem Sees.symm {o : Oper} {e e' : Env} (h : Sees ops o e e') : Sees ops o e' e := ⟨fun x hx => (h.ev x hx).symm, h.want.symm⟩

theorem Sees.put (o : Oper) (e : Env) (dst : Option Tmp) (v : AV) (h : ∀ t, dst = some t → t ∉ slotsOf ops o) : Sees ops o e (putV e dst v) := by
  cases dst with
  | none => exact .refl _ _
  | some d =>
    have hd := h d rfl
    refine ⟨fun x hx => ?_, ?_⟩
    · cases x with
      | tmp t =>
        have : d ≠ t := by
          rintro rfl
          exact hd (List.mem_append_left _ (List.mem_flatMap.2 ⟨.tmp d, by simpa using hx, by simp [slotOf]⟩))
        simp [evV, putV, List.getElem?_set_ne this]
      | _ => rfl
    · cases hg : o.guard with
      | none => rfl
      | some x =>
        obtain ⟨j, want⟩ := x
        simp only [wantsA]
        cases hj : ops[j]? with
        | none => rfl
        | some p =>
          cases hp : p.dst with
          | none => simp [hp]
          | some t =>
            have : d ≠ t := by
              rintro rfl
              exact hd (List.mem_append_right _ (by simp [hg, hj, hp]))
            simp [hp, putV, List.getElem?_set_ne this]

abbrev Log := List (Nat × List Nat)
def addLog (i : Nat) (L : List Nat) (log : Log) : Log := match L with
  | [] => log
  | L => (i, L) :: log

theorem addLog_sub {i : Nat} {L : List Nat} {log log' : Log} (h : ∀ p, p ∈ log' → p ∈ log) : ∀ p, p ∈ addLog i L log' → p ∈ addLog i L log := by
  cases L with
  | nil => exact h
  | cons a L =>
    intro p hp
    simp [addLog] at hp ⊢
    exact hp.imp id (h p)
theorem addLog_swap (i j : Nat) (L L' : List Nat) (log : Log) : ∀ p, p ∈ addLog i L (addLog j L' log) → p ∈ addLog j L' (addLog i L log) := by
  intro p
  cases L <;> cases L' <;> simp [addLog]
  intro h; rcases h with h | h | h <;> simp [h]
theorem addLog_mem {i : Nat} {L : List Nat} {log : Log} : ∀ p, p ∈ log → p ∈ addLog i L log := by
  intro p hp; cases L <;> simp [addLog, hp]
theorem addLog_has {i : Nat} {L : List Nat} {log : Log} (h : L ≠ []) : (i, L) ∈ addLog i L log := by
  cases L <;> simp [addLog] at h ⊢

/-- a step of such a run -/
def StepD (P : Program) (C : CallP O) (an : List Nat) (o : Oper) (i : Nat) (log : Log) (e : Env) (M : Mem O) (R : Log → Env → Mem O → Prop) : Bool → Prop
  | false => putE (fun e' => R log e' M) undefA e o.dst
  | true => match pureOp P o.op with
    | true => readsA e (fun L => pureA P o.op e M fun v => putE (fun e' => R (addLog i L log) e' M) v e o.dst) o.op
    | false => actA P C o.op e M fun v M' ch => payK (clear (an.getD i 0) ch log) (putE (fun e' => R log e' M') v e o.dst)

theorem runA_cons {K : Env → Mem O → Prop} {log : Log} {i : Nat} {rest : List Nat} {e : Env} {M : Mem O} : runA P C ops an K log (i :: rest) e M ↔ ∃ o b, ops[i]? = some o ∧ wantsA ops e o.guard = some b ∧ StepD P C an o i log e M (fun log e M => runA P C ops an K log rest e M) b := by
  simp only [runA]
  rw [getK_iff]
  constructor
  · rintro ⟨o, h1, h2⟩
    obtain ⟨b, h3, h4⟩ := guardK_iff.1 h2
    refine ⟨o, b, h1, h3, ?_⟩
    cases b with
    | false => exact h4
    | true =>
      unfold StepD
      dsimp only at h4 ⊢
      cases hp : pureOp P o.op with
      | true =>
        rw [hp] at h4
        refine cast (congrArg (fun F => readsA e F o.op) ?_) h4
        funext L
        cases L <;> rfl
      | false => rw [hp] at h4; exact h4
  · rintro ⟨o, b, h1, h3, h4⟩
    refine ⟨o, h1, guardK_iff.2 ⟨b, h3, ?_⟩⟩
    cases b with
    | false => exact h4
    | true =>
      unfold StepD at h4
      dsimp only at h4 ⊢
      cases hp : pureOp P o.op with
      | true =>
        rw [hp] at h4
        refine cast (congrArg (fun F => readsA e F o.op) ?_) h4
        funext L
        cases L <;> rfl
      | false => rw [hp] at h4; exact h4

theorem Det.reads (e : Env) (o : Op) : Det fun R => readsA e R o := by
  unfold readsA
  split
  · exact (Det.ev _ _).bind fun p => by cases p <;> exact .pure _
  · exact (Det.ev _ _).bind fun p => by cases p <;> exact .pure _
  · exact (Det.ev _ _).bind fun p => by cases p <;> exact .pure _
  · split
    · exact (Det.ev _ _).bind fun p => by cases p <;> exact .pure _
    · exact .pure _
  · exact .pure _

theorem readsA_to {e e' : Env} {o : Op} {R R' : List Nat → Prop} (h : readsA e R o) (he : ∀ x, x ∈ o.operands → evV e' x = evV e x) (hr : ∀ L, R L → R' L) : readsA e' R' o := by
  unfold readsA at h ⊢
  split at h
  · exact evK_to h (he _ (by simp [Op.operands])) fun p _ h => by cases p <;> exact hr _ h
  · exact evK_to h (he _ (by simp [Op.operands])) fun p _ h => by cases p <;> exact hr _ h
  · exact evK_to h (he _ (by simp [Op.operands])) fun p _ h => by cases p <;> exact hr _ h
  · split at h
    · rename_i x h1 h2
      exact evK_to h (he _ (by
        simp only [Op.operands, Call.operands]
        refine Array.mem_append.2 (.inr ?_)
        rw [← Array.mem_toList_iff, h2]; simp)) fun p _ h => by cases p <;> exact hr _ h
    · exact hr _ h
  · exact hr _ h

theorem clear_iff {a : Nat} {ch : List Nat} {log : Log} : clear a ch log = true ↔ ∀ j L, (j, L) ∈ log → has a j = true ∨ ∀ i, i ∈ L → i ∉ ch := by
  induction log with
  | nil => simp [clear]
  | cons p r ih =>
    obtain ⟨j, L⟩ := p
    simp only [clear, Bool.and_eq_true, ih, Bool.or_eq_true, List.all_eq_true]
    simp only [List.mem_cons, Prod.mk.injEq]
    constructor
    · rintro ⟨h1, h2⟩ j' L' (⟨rfl, rfl⟩ | h)
      · exact h1.imp id fun h i hi => by simpa using h i hi
      · exact h2 j' L' h
    · intro h
      exact ⟨(h j L (.inl ⟨rfl, rfl⟩)).imp id fun h i hi => by simpa using h i hi, fun j' L' h' => h j' L' (.inr h')⟩

/-- what a step did to what others have read -/
def Spares (an : List Nat) (i : Nat) (log : Log) (M M' : Mem O) : Prop := ∀ j L, (j, L) ∈ log → has (an.getD i 0) j = false → ∀ n, n ∈ L → n < M.length → M'[n]? = M[n]?

/-- a step elsewhere -/
theorem StepD.to (hC : COk C) {o : Oper} {i : Nat} {log log' : Log} {e e' : Env} {M : Mem O} {R R' : Log → Env → Mem O → Prop} {b : Bool} (h : StepD P C an o i log e M R b) (hs : Sees ops o e e') (hl : e'.length = e.length) (hlog : ∀ p, p ∈ log' → p ∈ log)
    (hR : ∀ v M' L, Spares an i log M M' → R (addLog i L log) (putV e o.dst v) M' → R' (addLog i L log') (putV e' o.dst v) M') : StepD P C an o i log' e' M R' b := by
  have sp : Spares an i log M M := fun _ _ _ _ _ _ _ => rfl
  cases b with
  | false =>
    have h : putE (fun e' => R log e' M) undefA e o.dst := h
    obtain ⟨h1, h2⟩ := putE_iff.1 h
    exact (putE_iff (R := fun e'' => R' log' e'' M)).2 ⟨fun t ht => by rw [hl]; exact h1 t ht, hR undefA M [] sp h2⟩
  | true =>
    unfold StepD at h ⊢
    dsimp only at h ⊢
    cases hp : pureOp P o.op with
    | true =>
      rw [hp] at h
      refine readsA_to h hs.ev fun L h => ?_
      refine pureA_move hp h hs.ev (fun _ _ _ _ _ => rfl) fun v h => ?_
      obtain ⟨h1, h2⟩ := putE_iff.1 h
      exact putE_iff.2 ⟨fun t ht => by rw [hl]; exact h1 t ht, hR v M L sp h2⟩
    | false =>
      rw [hp] at h
      refine actA_to hC h hs.ev fun v M' ch h hch => ?_
      obtain ⟨hcl, h⟩ := payK_iff.1 h
      obtain ⟨h1, h2⟩ := putE_iff.1 h
      have hcl := clear_iff.1 hcl
      refine payK_iff.2 ⟨clear_iff.2 fun j L hj => hcl j L (hlog _ hj), putE_iff.2 ⟨fun t ht => by rw [hl]; exact h1 t ht, hR v M' [] (fun j L hj hh n hn hlt => ?_) h2⟩⟩
      exact hch.2 n hlt ((hcl j L hj).resolve_left (by rw [hh]; simp) n hn)

/-- a pure operation's step: it may be made elsewhere -/
theorem StepD.pure {o : Oper} (hp : pureOp P o.op = true) {i : Nat} {log : Log} {e : Env} {M : Mem O} {R : Log → Env → Mem O → Prop} {b : Bool} (h : StepD P C an o i log e M R b) :
    ∃ v L, (∀ t, o.dst = some t → t < e.length) ∧ R (addLog i L log) (putV e o.dst v) M ∧ ∀ (e' : Env) (M' : Mem O) (log' : Log) (R' : Log → Env → Mem O → Prop), Sees ops o e e' → e'.length = e.length →
      (∀ n, n ∈ L → n < M.length → M'[n]? = M[n]?) → R' (addLog i L log') (putV e' o.dst v) M' → StepD P C an o i log' e' M' R' b := by
  cases b with
  | false =>
    have h : putE (fun e' => R log e' M) undefA e o.dst := h
    obtain ⟨h1, h2⟩ := putE_iff.1 h
    exact ⟨undefA, [], h1, h2, fun e' M' log' R' hs hl _ hR => (putE_iff (R := fun e'' => R' log' e'' M')).2 ⟨fun t ht => by rw [hl]; exact h1 t ht, hR⟩⟩
  | true =>
    unfold StepD at h
    dsimp only at h
    rw [hp] at h
    obtain ⟨L, h, hL⟩ := Det.reads e o.op _ h
    obtain ⟨v, h, hv⟩ := Det.op M hp e _ h
    obtain ⟨h1, h2⟩ := putE_iff.1 h
    refine ⟨v, L, h1, h2, fun e' M' log' R' hs hl hm hR => ?_⟩
    unfold StepD
    dsimp only
    rw [hp]
    refine readsA_to ((hL (fun r => r = L)).2 rfl) hs.ev fun L' hL' => ?_
    subst hL'
    refine pureA_move hp ((hv (fun r => r = v)).2 rfl) hs.ev (fun L' hL' => ?_) fun v' hv' => ?_
    · obtain rfl := (hL (fun r => r = L')).1 hL'
      exact hm
    · subst hv'
      exact putE_iff.2 ⟨fun t ht => by rw [hl]; exact h1 t ht, hR⟩

end Go.Am
end
