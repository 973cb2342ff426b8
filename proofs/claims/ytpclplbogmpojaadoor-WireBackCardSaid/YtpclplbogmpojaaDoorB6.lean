/-
  Part 6 of a proof: an abstract machine for the program, and what pieces of the program compute (WRefAll, WRefPlain, WRdr5, WRdr6, WRdr7, Sync, Once, WFeed0). No condition of its own.
-/
import Derived.Test.YtpclplbogmpojaaDoorB5
import Derived.KernelRfl
import Derived.Test.YtpclplbogmpojaaDoorProg
set_option linter.unusedSimpArgs false
set_option linter.unusedVariables false
section
set_option linter.unusedSimpArgs false
namespace Go.Am
open Go Go.Proofs

/-- a token behind others: bytes of data are told together -/
def addTok (l : List Tok) (t : Tok) : List Tok := match l.getLast? with
  | some x => if t.kind = 0 ∧ x.kind = 0 then l.dropLast ++ [{ x with text := x.text ++ t.text }] else l ++ [t]
  | none => [t]
def Ref.add (a : Ref × List Tok) (c : UInt8) : Ref × List Tok := ((a.1.feed c).1, match (a.1.feed c).2 with
  | none => a.2
  | some t => addTok a.2 t)
def Ref.all (r : Ref) (s : List UInt8) : Ref × List Tok := s.foldl Ref.add (r, [])

/-- tokens, none at first -/
def optL (l : List Tok) : Option (List Tok) := match l with
  | [] => none
  | _ => some l

theorem optL_snoc (l : List Tok) (t : Tok) : optL (l ++ [t]) = some (l ++ [t]) := by cases l <;> rfl
theorem low_toSlE {τ : List Nat} {i j : Nat} {s s' : List Tok} (h : τ[i]? = some j) (hl : s.length = s'.length) : Low τ (toSl i (some s)) (toSl j (some s')) := by
  simp only [toSl, hl]; exact .sl h
theorem part_toL {τ ts : List Nat} {M : Mem Ob} {os : Mem Ob} {t : Nat} {s : List Tok} (h : M[t]? = some (toRow (optL s))) (hp : Parts τ M ts os) : Parts τ M (t :: ts) (toRow (optL s) :: os) := part_to (.inr h) hp

def Ref.okCmd (r : Ref) : Prop := r.cmd = none ∨ r.cmd = some [255] ∨ ∃ x, r.cmd = some [255, x]

theorem Ref.command_okCmd (r : Ref) (c : UInt8) : (r.command c).1.okCmd := by
  unfold Ref.command
  split
  · exact .inl rfl
  split
  · exact .inr (.inr ⟨c, rfl⟩)
  · exact .inl rfl
theorem Ref.sub_okCmd (r : Ref) (c : UInt8) (h : r.okCmd) : (r.sub c).1.okCmd := by
  unfold Ref.sub
  repeat' split
  all_goals first | exact h | exact Ref.command_okCmd _ _
theorem Ref.feed_okCmd (r : Ref) (c : UInt8) (h : r.okCmd) : (r.feed c).1.okCmd := by
  unfold Ref.feed
  split
  · exact r.sub_okCmd c h
  split
  · split <;> exact .inl rfl
  · exact r.command_okCmd c
  · split
    · rename_i h1; exact .inr (.inl (by simp [h1]))
    split <;> exact h

theorem Ref.command_text (r : Ref) (c : UInt8) (t : Tok) (h : (r.command c).2 = some t) (hk : t.kind = 0) : t.text.length ≤ 1 := by
  unfold Ref.command at h
  split at h
  · simp at h; subst h; simp
  split at h
  · simp at h
  · simp at h; subst h; simp at hk
theorem Ref.sub_text (r : Ref) (c : UInt8) (t : Tok) (h : (r.sub c).2 = some t) (hk : t.kind = 0) : t.text.length ≤ 1 := by
  unfold Ref.sub at h
  split at h
  · simp at h
  split at h
  · split at h
    · exact Ref.command_text _ c t h hk
    · simp only at h
      split at h
      · simp at h
      · simp at h; subst h; simp at hk
  split at h <;> simp at h
theorem Ref.feed_text (r : Ref) (c : UInt8) (t : Tok) (h : (r.feed c).2 = some t) (hk : t.kind = 0) : t.text.length ≤ 1 := by
  unfold Ref.feed at h
  split at h
  · exact Ref.sub_text r c t h hk
  split at h
  · split at h
    · simp at h
    · simp at h; subst h; simp at hk
  · exact Ref.command_text r c t h hk
  · split at h
    · simp at h
    split at h
    · simp at h
    · simp at h; subst h; simp

theorem tok_at (init : List Tok) (x : Tok) (post : List Tok) (j : Nat) (hj : j < 4) : ((init ++ x :: post).flatMap Tok.cells)[init.length * 4 + j]? = x.cells[j]? := by
  rw [List.flatMap_append, List.getElem?_append_right (by rw [toks_length]; omega), toks_length, List.flatMap_cons, show init.length * 4 + j - init.length * 4 = j by omega, List.getElem?_append_left (by simpa [Tok.cells] using hj)]

/-- a field of a token is laid anew -/
theorem tok_put {R : List AV → Prop} (init : List Tok) (x : Tok) (post : List Tok) (s : List UInt8) (h : R ((init ++ { x with text := s } :: post).flatMap Tok.cells)) : putK [.str s] R (init.length * 4 + 3) ((init ++ x :: post).flatMap Tok.cells) := by
  refine putK_iff.2 ⟨?_, ?_⟩
  · simp only [List.flatMap_append, List.flatMap_cons, List.length_append, toks_length]; simp [Tok.cells]; omega
  · have e1 : ((init ++ x :: post).flatMap Tok.cells).take (init.length * 4 + 3) = init.flatMap Tok.cells ++ [.int .i64 x.kind, .int .i64 x.cmd, .int .i64 x.opt] := by
      rw [List.flatMap_append, ← toks_length, List.take_append, List.take_of_length_le (by omega)]
      simp [Tok.cells]
    have e2 : ((init ++ x :: post).flatMap Tok.cells).drop (init.length * 4 + 3 + 1) = post.flatMap Tok.cells := by
      rw [List.flatMap_append, ← toks_length, List.drop_append, List.drop_of_length_le (by omega)]
      simp [Tok.cells]
      have : ∀ n : Nat, n + 3 + 1 - n = 4 := fun n => by omega
      rw [this]; rfl
    rw [e1, show [AV.str s].length = 1 from rfl, e2]
    simpa [Tok.cells] using h

theorem tok_put' {R : List AV → Prop} {n : Nat} (init : List Tok) (x : Tok) (post : List Tok) (s : List UInt8) (hn : n = init.length * 4 + 3) (h : R ((init ++ { x with text := s } :: post).flatMap Tok.cells)) : putK [.str s] R n ((init ++ x :: post).flatMap Tok.cells) := by
  subst hn; exact tok_put init x post s h

set_option maxRecDepth 100000
theorem push_tok {el : TypeId} {inf : TypeInfo} {id : Nat} {o : Option (List Tok)} {l : List Tok} {t : Tok} {new : List AV} {M : Mem Ob} {K : AV → Mem Ob → Prop} (hsz : inf.size = 4) (hby : inf.bytes = 40) (hz : ∀ R : Prop, R → zeroK Tryd.prog (fun l => payK (decide (l.length = inf.size)) R) el)
    (ho : o = optL l) (hM : M[id]? = some (toRow o)) (hnew : new = t.cells) (hroom : l.length ≤ 1000000000)
    (hk : K (toSl M.length (optL (l ++ [t]))) (M.set id .dead ++ [toRow (optL (l ++ [t]))])) : pushA Tryd.prog el inf 1 new (toSl id o) M K := by
  subst hnew ho
  rw [optL_snoc] at hk
  cases l with
  | nil =>
    refine push_none hsz (by omega) hz (by omega) (by rw [hby]; omega) ?_
    have : M.set id .dead = M := by
      obtain ⟨h1, h2⟩ := List.getElem?_eq_some_iff.1 hM
      rw [← show M[id] = AO.dead from h2]; exact List.set_getElem_self h1
    rw [this] at hk
    exact hk
  | cons x l =>
    refine push_some hsz (by omega) hz hM (toks_length _) (by omega) (by rw [hby]; omega) ?_
    simpa [toSl, toRow] using hk

theorem zero_tok (R : Prop) (h : R) (hlt : 61 < Tryd.prog.types.size) : zeroK Tryd.prog (fun l => payK (decide (l.length = (Tryd.prog.types[61]'hlt).size)) R) 61 := by
  rw [sz61]
  exact h
attribute [local irreducible] CallT Ent pushA

theorem all_ok (r : Ref) (hr : r.okCmd) (s : List UInt8) (hs : s.length ≤ 1000000) : T 24 [.ptr 0 0, .str s] [.obj (.ref r)] (fun v M' _ => v = toSl 1 (optL (r.all s).2) ∧ M' = [.obj (.ref (r.all s).1), toRow (optL (r.all s).2)]) := by
  refine CallT.by_body Tryd.func24 rfl Tryd.call24 rfl (.refl _ _ _) ?_
  ((conv => whnf); (repeat ((with_reducible refine Rest.mk ?_); (conv => whnf))))
  refine .inl (loopG (α := Nat × Ref × List Tok) (inv := fun a => a.1 ≤ s.length ∧ (s.take a.1).foldl Ref.add (r, []) = a.2 ∧ a.2.1.okCmd ∧ a.2.2.length ≤ a.1 ∧ ∀ t, t ∈ a.2.2 → t.kind = 0 → t.text.length ≤ a.1)
    (st := fun a => [.ptr 0 0, .str s, .und, .und, .nilS, toSl 1 (optL a.2.2), .int .i64 (a.1 : Nat), .und, .und, .und, .und, .und, .und, .und, .und, .und, .und, .und, .und, .und, .und, .und, .und, .und, .und, .und, .und, .und, .und, .und, .und, .und, .und, .und, .und, .und, .und, .und, .und, .und, .und, .und, .und, .und, .und, .und, .und, .und, .und, .und, .und, .und, .und, .und, .und, .und, .und, .und, .und, .und, .und, .und, .und, .und, .und, .und, .und, .und, .und, .und, .und])
    (mm := fun a => [.obj (.ref a.2.1), toRow (optL a.2.2)]) (μ := fun a => s.length - a.1) (0, r, []) (by simp [hr]) ?_ ?_)
  · exact .low (τ := [0, 9]) (Parts.low (by decide) (.some rfl (.obj _) (.dead .nil))) (by (repeat' (first | exact LowL.nil _ | refine LowL.cons (.und _) ?_ | refine LowL.cons (.int _ _) ?_ | refine LowL.cons (.str _) ?_ | refine LowL.cons (.bool _) ?_ | refine LowL.cons (.ptr rfl) ?_ | refine LowL.cons (.sl rfl) ?_ | refine LowL.cons (low_vsS _ _) ?_ | refine LowL.cons (low_vsI _ _) ?_ | refine LowL.cons (low_tx rfl _) ?_ | refine LowL.cons .nilS ?_ | refine LowL.cons .nilP ?_ | refine LowL.cons (low_acc rfl _) ?_ | refine LowL.cons (low_toSl rfl _) ?_ | refine LowL.cons (low_bySl rfl _) ?_ | refine LowL.cons (low_toSlE rfl (by simp)) ?_))) (by simp) (fun i hi => by obtain rfl : i = 0 := (by simpa using hi); rfl)
  rintro ⟨k, R, out⟩ ⟨hk, hf, hok, hol, htx⟩
  dsimp only at hk hf hok hol htx ⊢
  ((conv => whnf); (repeat ((with_reducible refine Rest.mk ?_); (conv => whnf))))
  refine testK_split (fun h => ?_) (fun h => ?_) <;> ((conv => whnf); (repeat ((with_reducible refine Rest.mk ?_); (conv => whnf))))
  · simp only [decide_eq_true_eq] at h
    have hkn : k < s.length := by omega
    refine testK_true (by simp; omega) ?_
    ((conv => whnf); (repeat ((with_reducible refine Rest.mk ?_); (conv => whnf))))
    have e1 : ((k : Int)).toNat = k := by simp
    have hget : s.getD k 0 = s[k] := by simp [hkn]
    rw [e1, hget]
    have hnext : (s.take (k + 1)).foldl Ref.add (r, []) = Ref.add (R, out) s[k] := by
      rw [List.take_succ_eq_append_getElem hkn, List.foldl_append, hf]; rfl
    generalize s[k] = c at hnext ⊢
    have hok' := R.feed_okCmd c hok
    have hft := R.feed_text c
    refine CallT.objX (r := 0) (rfeed_ok R c hok) rfl (two_args c) ?_
    rintro v M0' ch ⟨rfl, rfl⟩
    refine ⟨_, _, rfl, ?_⟩
    generalize hfd : R.feed c = fd at hok' hft ⊢
    obtain ⟨R', t⟩ := fd
    simp only [Ref.add, hfd] at hnext
    simp only [List.map_cons, List.map_nil, ren_resRow, ren_resSl]
    rcases t with _ | t
    · ((conv => whnf); (repeat ((with_reducible refine Rest.mk ?_); (conv => whnf))))
      refine .inr ⟨1, ?_⟩
      ((conv => whnf); (repeat ((with_reducible refine Rest.mk ?_); (conv => whnf))))
      rw [wrap_succ (by omega)]
      refine ⟨(k + 1, R', out), _, _, .low (τ := [0, 1]) ?_ (by (repeat' (first | exact LowL.nil _ | refine LowL.cons (.und _) ?_ | refine LowL.cons (.int _ _) ?_ | refine LowL.cons (.str _) ?_ | refine LowL.cons (.bool _) ?_ | refine LowL.cons (.ptr rfl) ?_ | refine LowL.cons (.sl rfl) ?_ | refine LowL.cons (low_vsS _ _) ?_ | refine LowL.cons (low_vsI _ _) ?_ | refine LowL.cons (low_tx rfl _) ?_ | refine LowL.cons .nilS ?_ | refine LowL.cons .nilP ?_ | refine LowL.cons (low_acc rfl _) ?_ | refine LowL.cons (low_toSl rfl _) ?_ | refine LowL.cons (low_bySl rfl _) ?_ | refine LowL.cons (low_toSlE rfl (by simp)) ?_))) (by simp) (fun i hi => by obtain rfl : i = 0 := (by simpa using hi); rfl), ⟨⟨hkn, hnext, hok', by simp; omega, fun t ht h0 => Nat.le_succ_of_le (htx t ht h0)⟩, rfl, rfl⟩, by simp; omega⟩
      exact Parts.low (by decide) (.some rfl (.obj _) (part_toL rfl .nil))
    · rcases List.eq_nil_or_concat out with rfl | ⟨init, x, rfl⟩
      · ((conv => whnf); (repeat ((with_reducible refine Rest.mk ?_); (conv => whnf))))
        refine .inr ⟨2, ?_⟩
        ((conv => whnf); (repeat ((with_reducible refine Rest.mk ?_); (conv => whnf))))
        refine testK_split (fun h0 => ?_) (fun h0 => ?_) <;> ((conv => whnf); (repeat ((with_reducible refine Rest.mk ?_); (conv => whnf))))
        · have happ : ∀ y, y ∈ ([] : List Tok) ++ [t] → y.kind = 0 → y.text.length ≤ k + 1 := fun y hy hy0 => by
            rcases List.mem_append.1 hy with hy | hy
            · exact Nat.le_succ_of_le (htx y hy hy0)
            · simp at hy; subst hy; exact Nat.le_trans (hft _ rfl hy0) (by omega)
          refine push_tok (id := 1) (l := ([] : List Tok)) (t := t) (sz61 _) (by61 _) (fun R h => zero_tok R h _) (by first | rfl | exact (optL_snoc _ _).symm) rfl (by simp [sz61, sub, Tok.cells]) (by simp at hol ⊢; try omega) ?_
          ((conv => whnf); (repeat ((with_reducible refine Rest.mk ?_); (conv => whnf))))
          rw [wrap_succ (by omega)]
          exact ⟨(k + 1, R', ([] : List Tok) ++ [t]), _, _, .low (τ := [0, 4]) (Parts.low (by decide) (.some rfl (.obj _) (part_toL rfl .nil))) (by (repeat' (first | exact LowL.nil _ | refine LowL.cons (.und _) ?_ | refine LowL.cons (.int _ _) ?_ | refine LowL.cons (.str _) ?_ | refine LowL.cons (.bool _) ?_ | refine LowL.cons (.ptr rfl) ?_ | refine LowL.cons (.sl rfl) ?_ | refine LowL.cons (low_vsS _ _) ?_ | refine LowL.cons (low_vsI _ _) ?_ | refine LowL.cons (low_tx rfl _) ?_ | refine LowL.cons .nilS ?_ | refine LowL.cons .nilP ?_ | refine LowL.cons (low_acc rfl _) ?_ | refine LowL.cons (low_toSl rfl _) ?_ | refine LowL.cons (low_bySl rfl _) ?_ | refine LowL.cons (low_toSlE rfl (by simp)) ?_))) (by simp) (fun i hi => by obtain rfl : i = 0 := (by simpa using hi); rfl), ⟨⟨hkn, by rw [hnext]; rfl, hok', by simp at hol ⊢; try omega, happ⟩, rfl, rfl⟩, by simp; omega⟩
        · have happ : ∀ y, y ∈ ([] : List Tok) ++ [t] → y.kind = 0 → y.text.length ≤ k + 1 := fun y hy hy0 => by
            rcases List.mem_append.1 hy with hy | hy
            · exact Nat.le_succ_of_le (htx y hy hy0)
            · simp at hy; subst hy; exact Nat.le_trans (hft _ rfl hy0) (by omega)
          refine push_tok (id := 1) (l := ([] : List Tok)) (t := t) (sz61 _) (by61 _) (fun R h => zero_tok R h _) (by first | rfl | exact (optL_snoc _ _).symm) rfl (by simp [sz61, sub, Tok.cells]) (by simp at hol ⊢; try omega) ?_
          ((conv => whnf); (repeat ((with_reducible refine Rest.mk ?_); (conv => whnf))))
          rw [wrap_succ (by omega)]
          exact ⟨(k + 1, R', ([] : List Tok) ++ [t]), _, _, .low (τ := [0, 4]) (Parts.low (by decide) (.some rfl (.obj _) (part_toL rfl .nil))) (by (repeat' (first | exact LowL.nil _ | refine LowL.cons (.und _) ?_ | refine LowL.cons (.int _ _) ?_ | refine LowL.cons (.str _) ?_ | refine LowL.cons (.bool _) ?_ | refine LowL.cons (.ptr rfl) ?_ | refine LowL.cons (.sl rfl) ?_ | refine LowL.cons (low_vsS _ _) ?_ | refine LowL.cons (low_vsI _ _) ?_ | refine LowL.cons (low_tx rfl _) ?_ | refine LowL.cons .nilS ?_ | refine LowL.cons .nilP ?_ | refine LowL.cons (low_acc rfl _) ?_ | refine LowL.cons (low_toSl rfl _) ?_ | refine LowL.cons (low_bySl rfl _) ?_ | refine LowL.cons (low_toSlE rfl (by simp)) ?_))) (by simp) (fun i hi => by obtain rfl : i = 0 := (by simpa using hi); rfl), ⟨⟨hkn, by rw [hnext]; rfl, hok', by simp at hol ⊢; try omega, happ⟩, rfl, rfl⟩, by simp; omega⟩
      · rw [List.concat_eq_append] at *
        rw [optL_snoc]
        ((conv => whnf); (repeat ((with_reducible refine Rest.mk ?_); (conv => whnf))))
        refine .inr ⟨2, ?_⟩
        ((conv => whnf); (repeat ((with_reducible refine Rest.mk ?_); (conv => whnf))))
        have hw : IntKind.i64.wrap (((init ++ [x]).length : Int) - 1) = (init.length : Int) := by rw [wrap_in (by simp) (by simp at hol ⊢; omega)]; simp
        rw [hw]
        refine testK_split (fun h0 => ?_) (fun h0 => ?_) <;> ((conv => whnf); (repeat ((with_reducible refine Rest.mk ?_); (conv => whnf))))
        · refine testK_true (by simp; omega) ?_
          ((conv => whnf); (repeat ((with_reducible refine Rest.mk ?_); (conv => whnf))))
          have hat : ∀ (sz off : Nat) (j : Nat), sz = 4 → j < 4 → off = j → ((init ++ [x]).flatMap Tok.cells)[0 + (init.length : Int).toNat * sz + off]? = x.cells[j]? := by
            intro sz off j h1 h2 h3
            subst h1 h3
            rw [← tok_at init x [] off h2]; simp
          refine dropHead (v := .int .i64 x.kind) (hat _ _ 0 (sz61 _) (by omega) rfl) ?_
          ((conv => whnf); (repeat ((with_reducible refine Rest.mk ?_); (conv => whnf))))
          refine testK_split (fun hx0 => ?_) (fun hx0 => ?_) <;> ((conv => whnf); (repeat ((with_reducible refine Rest.mk ?_); (conv => whnf))))
          · refine testK_true (b := drawOk _ _ _) (by kernel_rfl) ?_
            ((conv => whnf); (repeat ((with_reducible refine Rest.mk ?_); (conv => whnf))))
            have hx1 : x.kind = 0 := by simpa using hx0
            have ht1 : t.kind = 0 := by simpa using h0
            have hlx := htx x (by simp) hx1
            have hlt := hft t rfl ht1
            refine testK_true (by simp; omega) ?_
            ((conv => whnf); (repeat ((with_reducible refine Rest.mk ?_); (conv => whnf))))
            refine dropHead (v := .str x.text) (hat _ _ 3 (sz61 _) (by omega) rfl) ?_
            ((conv => whnf); (repeat ((with_reducible refine Rest.mk ?_); (conv => whnf))))
            refine testK_true (by simp; omega) ?_
            ((conv => whnf); (repeat ((with_reducible refine Rest.mk ?_); (conv => whnf))))
            refine testK_true (by simp; omega) ?_
            ((conv => whnf); (repeat ((with_reducible refine Rest.mk ?_); (conv => whnf))))
            refine tok_put' init x [] (x.text ++ t.text) (by simp [sz61]) ?_
            ((conv => whnf); (repeat ((with_reducible refine Rest.mk ?_); (conv => whnf))))
            rw [wrap_succ (by omega)]
            refine ⟨(k + 1, R', init ++ [{ x with text := x.text ++ t.text }]), _, _, .low (τ := [0, 1]) (Parts.low (by decide) (.some rfl (.obj _) (part_toL (by rw [optL_snoc]; rfl) .nil))) (by simp only [optL_snoc, List.length_append, List.length_singleton]; (repeat' (first | exact LowL.nil _ | refine LowL.cons (.und _) ?_ | refine LowL.cons (.int _ _) ?_ | refine LowL.cons (.str _) ?_ | refine LowL.cons (.bool _) ?_ | refine LowL.cons (.ptr rfl) ?_ | refine LowL.cons (.sl rfl) ?_ | refine LowL.cons (low_vsS _ _) ?_ | refine LowL.cons (low_vsI _ _) ?_ | refine LowL.cons (low_tx rfl _) ?_ | refine LowL.cons .nilS ?_ | refine LowL.cons .nilP ?_ | refine LowL.cons (low_acc rfl _) ?_ | refine LowL.cons (low_toSl rfl _) ?_ | refine LowL.cons (low_bySl rfl _) ?_ | refine LowL.cons (low_toSlE rfl (by simp)) ?_))) (by simp) (fun i hi => by obtain rfl : i = 0 := (by simpa using hi); rfl), ⟨⟨hkn, by rw [hnext]; simp [addTok, hx1, ht1], hok', by simpa using Nat.le_succ_of_le hol, ?_⟩, rfl, rfl⟩, by simp; omega⟩
            intro y hy hy0
            rcases List.mem_append.1 hy with hy | hy
            · exact Nat.le_succ_of_le (htx y (by simp [hy]) hy0)
            · simp at hy; subst hy; simp; omega
          · have happ : ∀ y, y ∈ (init ++ [x]) ++ [t] → y.kind = 0 → y.text.length ≤ k + 1 := fun y hy hy0 => by
              rcases List.mem_append.1 hy with hy | hy
              · exact Nat.le_succ_of_le (htx y hy hy0)
              · simp at hy; subst hy; exact Nat.le_trans (hft _ rfl hy0) (by omega)
            refine push_tok (id := 1) (l := (init ++ [x])) (t := t) (sz61 _) (by61 _) (fun R h => zero_tok R h _) (by first | rfl | exact (optL_snoc _ _).symm) rfl (by simp [sz61, sub, Tok.cells]) (by simp at hol ⊢; try omega) ?_
            ((conv => whnf); (repeat ((with_reducible refine Rest.mk ?_); (conv => whnf))))
            rw [wrap_succ (by omega)]
            exact ⟨(k + 1, R', (init ++ [x]) ++ [t]), _, _, .low (τ := [0, 4]) (Parts.low (by decide) (.some rfl (.obj _) (part_toL rfl .nil))) (by (repeat' (first | exact LowL.nil _ | refine LowL.cons (.und _) ?_ | refine LowL.cons (.int _ _) ?_ | refine LowL.cons (.str _) ?_ | refine LowL.cons (.bool _) ?_ | refine LowL.cons (.ptr rfl) ?_ | refine LowL.cons (.sl rfl) ?_ | refine LowL.cons (low_vsS _ _) ?_ | refine LowL.cons (low_vsI _ _) ?_ | refine LowL.cons (low_tx rfl _) ?_ | refine LowL.cons .nilS ?_ | refine LowL.cons .nilP ?_ | refine LowL.cons (low_acc rfl _) ?_ | refine LowL.cons (low_toSl rfl _) ?_ | refine LowL.cons (low_bySl rfl _) ?_ | refine LowL.cons (low_toSlE rfl (by simp)) ?_))) (by simp) (fun i hi => by obtain rfl : i = 0 := (by simpa using hi); rfl), ⟨⟨hkn, by rw [hnext]; simp at hx0; simp [addTok, hx0], hok', by simp at hol ⊢; try omega, happ⟩, rfl, rfl⟩, by simp; omega⟩
        · have happ : ∀ y, y ∈ (init ++ [x]) ++ [t] → y.kind = 0 → y.text.length ≤ k + 1 := fun y hy hy0 => by
            rcases List.mem_append.1 hy with hy | hy
            · exact Nat.le_succ_of_le (htx y hy hy0)
            · simp at hy; subst hy; exact Nat.le_trans (hft _ rfl hy0) (by omega)
          refine push_tok (id := 1) (l := (init ++ [x])) (t := t) (sz61 _) (by61 _) (fun R h => zero_tok R h _) (by first | rfl | exact (optL_snoc _ _).symm) rfl (by simp [sz61, sub, Tok.cells]) (by simp at hol ⊢; try omega) ?_
          ((conv => whnf); (repeat ((with_reducible refine Rest.mk ?_); (conv => whnf))))
          rw [wrap_succ (by omega)]
          exact ⟨(k + 1, R', (init ++ [x]) ++ [t]), _, _, .low (τ := [0, 4]) (Parts.low (by decide) (.some rfl (.obj _) (part_toL rfl .nil))) (by (repeat' (first | exact LowL.nil _ | refine LowL.cons (.und _) ?_ | refine LowL.cons (.int _ _) ?_ | refine LowL.cons (.str _) ?_ | refine LowL.cons (.bool _) ?_ | refine LowL.cons (.ptr rfl) ?_ | refine LowL.cons (.sl rfl) ?_ | refine LowL.cons (low_vsS _ _) ?_ | refine LowL.cons (low_vsI _ _) ?_ | refine LowL.cons (low_tx rfl _) ?_ | refine LowL.cons .nilS ?_ | refine LowL.cons .nilP ?_ | refine LowL.cons (low_acc rfl _) ?_ | refine LowL.cons (low_toSl rfl _) ?_ | refine LowL.cons (low_bySl rfl _) ?_ | refine LowL.cons (low_toSlE rfl (by simp)) ?_))) (by simp) (fun i hi => by obtain rfl : i = 0 := (by simpa using hi); rfl), ⟨⟨hkn, by rw [hnext]; simp at h0; simp [addTok, h0], hok', by simp at hol ⊢; try omega, happ⟩, rfl, rfl⟩, by simp; omega⟩
  · have hkx : k = s.length := by simp at h; omega
    subst hkx
    rw [List.take_length] at hf
    have ha : r.all s = (R, out) := hf
    rw [ha]
    exact fin.mk _ _ [0] (.refl _ _ _) ⟨rfl, rfl⟩ ⟨by simp, fun i hi hn => by simp at hi hn; omega⟩
end Go.Am
end
section
set_option linter.unusedSimpArgs false
namespace Go.Am
open Go Go.Proofs

def Ref.new (bin : Bool) : Ref := ⟨bin, false, none, false, 0, none, false, false⟩
/-- the bytes that are told -/
def plainText (l : List Tok) : List UInt8 := l.flatMap fun t => if t.kind = 0 then t.text else []
def refPlain (bin : Bool) (s : List UInt8) : List UInt8 := plainText ((Ref.new bin).all s).2

theorem addTok_bd {n : Nat} {l : List Tok} {t : Tok} (hl : l.length ≤ n) (htx : ∀ t, t ∈ l → t.kind = 0 → t.text.length ≤ n) (ht : t.kind = 0 → t.text.length ≤ 1) :
    (addTok l t).length ≤ n + 1 ∧ ∀ y, y ∈ addTok l t → y.kind = 0 → y.text.length ≤ n + 1 := by
  unfold addTok
  rcases List.eq_nil_or_concat l with rfl | ⟨init, x, rfl⟩
  · simp only [List.getLast?_nil]
    exact ⟨by simp, fun y hy h0 => by simp at hy; subst hy; have := ht h0; omega⟩
  · rw [List.concat_eq_append] at *
    simp only [List.getLast?_append, List.getLast?_singleton, Option.some_or, List.dropLast_concat]
    split
    · rename_i h
      refine ⟨by simp at hl ⊢; omega, fun y hy h0 => ?_⟩
      rcases List.mem_append.1 hy with hy | hy
      · have := htx y (by simp [hy]) h0; omega
      · simp at hy; subst hy
        have h1 := htx x (by simp) h.2
        have h2 := ht h.1
        simp; omega
    · refine ⟨by simp at hl ⊢; omega, fun y hy h0 => ?_⟩
      rcases List.mem_append.1 hy with hy | hy
      · have := htx y hy h0; omega
      · simp at hy; subst hy; have := ht h0; omega

theorem all_bd (s : List UInt8) : ∀ (n : Nat) (a : Ref × List Tok), a.2.length ≤ n → (∀ t, t ∈ a.2 → t.kind = 0 → t.text.length ≤ n) →
    (s.foldl Ref.add a).2.length ≤ n + s.length ∧ ∀ t, t ∈ (s.foldl Ref.add a).2 → t.kind = 0 → t.text.length ≤ n + s.length := by
  induction s with
  | nil => intro n a h1 h2; exact ⟨h1, h2⟩
  | cons c s ih =>
    intro n a h1 h2
    have key : (Ref.add a c).2.length ≤ n + 1 ∧ ∀ y, y ∈ (Ref.add a c).2 → y.kind = 0 → y.text.length ≤ n + 1 := by
      unfold Ref.add
      have hft := a.1.feed_text c
      cases hf : (a.1.feed c).2 with
      | none => exact ⟨by simp only; omega, fun y hy h0 => by have := h2 y hy h0; omega⟩
      | some t => exact addTok_bd h1 h2 (fun h0 => hft t hf h0)
    have := ih (n + 1) (Ref.add a c) key.1 key.2
    simp only [List.foldl_cons, List.length_cons]
    rw [show n + (s.length + 1) = n + 1 + s.length by omega]
    exact this

theorem tok_get {l : List Tok} {k : Nat} (hk : k < l.length) (j : Nat) (hj : j < 4) : (l.flatMap Tok.cells)[k * 4 + j]? = l[k].cells[j]? := by
  have := tok_at (l.take k) l[k] (l.drop (k + 1)) j hj
  rw [← List.drop_eq_getElem_cons hk, List.take_append_drop, List.length_take, Nat.min_eq_left (by omega)] at this
  exact this

theorem plain_snoc (l : List Tok) (t : Tok) : plainText (l ++ [t]) = plainText l ++ (if t.kind = 0 then t.text else []) := by simp [plainText]
theorem plain_app (l m : List Tok) : plainText (l ++ m) = plainText l ++ plainText m := by simp [plainText]
theorem plain_take (l : List Tok) (j : Nat) : (plainText (l.take j)).length ≤ (plainText l).length := by
  have e := plain_app (l.take j) (l.drop j)
  rw [List.take_append_drop] at e
  rw [e]; simp
theorem plain_len {l : List Tok} {n : Nat} (h : ∀ t, t ∈ l → t.kind = 0 → t.text.length ≤ n) : (plainText l).length ≤ l.length * n := by
  induction l with
  | nil => simp [plainText]
  | cons t l ih =>
    have := ih fun t ht => h t (by simp [ht])
    simp only [plainText, List.flatMap_cons, List.length_append, List.length_cons] at this ⊢
    have h1 : (if t.kind = 0 then t.text else []).length ≤ n := by
      split
      · exact h t (by simp) ‹_›
      · simp
    rw [Nat.add_mul]; omega

theorem optL_ne {l : List Tok} (h : l ≠ []) : optL l = some l := by cases l with | nil => exact absurd rfl h | cons a l => rfl

set_option maxRecDepth 100000
attribute [local irreducible] CallT Ent pushA

theorem rplain_ok (bin : Bool) (s : List UInt8) (hs : s.length ≤ 1000000) : T 8 [.bool bin, .str s] [] (fun v M' _ => v = .str (refPlain bin s) ∧ M' = []) := by
  refine CallT.by_body Tryd.func8 rfl Tryd.call8 rfl (.refl _ _ _) ?_
  ((conv => whnf); (repeat ((with_reducible refine Rest.mk ?_); (conv => whnf))))
  refine CallT.foldedT (o := Ob.ref (Ref.new bin)) (r := 0) (cs := [8, 9]) (all_ok (Ref.new bin) (.inl rfl) s hs) (Parts.low (by decide) (.some rfl (.cells (low_ref (r := Ref.new bin) .nilS .nilS)) (.dead (.dead .nil)))) (by simp [unfW]) (.cons (.ptr rfl) (.cons (.str _) (.nil _))) (by simp) ?_
  rintro v M0' ch ⟨rfl, rfl⟩
  refine ⟨_, _, rfl, ?_⟩
  have hbd := all_bd s 0 (Ref.new bin, []) (by simp) (by simp)
  rw [show (s.foldl Ref.add (Ref.new bin, [])) = (Ref.new bin).all s from rfl] at hbd
  unfold refPlain
  generalize (Ref.new bin).all s = a at hbd ⊢
  obtain ⟨R, out⟩ := a
  simp only [Nat.zero_add] at hbd ⊢
  obtain ⟨hlen, htx⟩ := hbd
  simp only [List.map_cons, List.map_nil, ren_toRow, ren_toSl]
  have hend : ∀ (t : List UInt8) (M : Mem Ob), t = plainText out → fin unfW 0 [] (fun v M' _ => v = .str (plainText out) ∧ M' = []) (.str t) M := fun t M h => by
    subst h; exact fin.flat (.str _) ⟨rfl, rfl⟩
  by_cases h0 : out = []
  · subst h0
    ((conv => whnf); (repeat ((with_reducible refine Rest.mk ?_); (conv => whnf))))
    refine .inr ⟨1, ?_⟩
    ((conv => whnf); (repeat ((with_reducible refine Rest.mk ?_); (conv => whnf))))
    exact hend _ _ rfl
  · rw [optL_ne h0]
    ((conv => whnf); (repeat ((with_reducible refine Rest.mk ?_); (conv => whnf))))
    refine .inl (loopG (α := Nat) (inv := fun k => k ≤ out.length)
      (st := fun k => [.und, .und, .und, .und, .str [], .und, .sl 1 0 out.length out.length, .str (plainText (out.take k)), .int .i64 (k : Nat), .und, .und, .und, .und, .und, .und, .und, .und, .und, .und, .und, .und, .und, .und, .und, .und, .und, .und, .und, .und, .und, .und, .und, .und, .und, .und])
      (mm := fun k => [.obj (.ref R), .cells (some 4) (out.flatMap Tok.cells)]) (μ := fun k => out.length - k) 0 (Nat.zero_le _) ?_ ?_)
    · exact .env (by (repeat' (first | exact LowL.nil _ | refine LowL.cons (.und _) ?_ | refine LowL.cons (.int _ _) ?_ | refine LowL.cons (.str _) ?_ | refine LowL.cons (.bool _) ?_ | refine LowL.cons (.ptr rfl) ?_ | refine LowL.cons (.sl rfl) ?_ | refine LowL.cons (low_vsS _ _) ?_ | refine LowL.cons (low_vsI _ _) ?_ | refine LowL.cons (low_tx rfl _) ?_ | refine LowL.cons .nilS ?_ | refine LowL.cons .nilP ?_ | refine LowL.cons (low_acc rfl _) ?_ | refine LowL.cons (low_toSl rfl _) ?_ | refine LowL.cons (low_bySl rfl _) ?_ | refine LowL.cons (low_toSlE rfl (by simp)) ?_)))
    intro k hk
    ((conv => whnf); (repeat ((with_reducible refine Rest.mk ?_); (conv => whnf))))
    refine testK_split (fun h => ?_) (fun h => ?_) <;> ((conv => whnf); (repeat ((with_reducible refine Rest.mk ?_); (conv => whnf))))
    · simp only [decide_eq_true_eq] at h
      have hkn : k < out.length := by omega
      have hat : ∀ (sz off : Nat) (j : Nat), sz = 4 → j < 4 → off = j → (out.flatMap Tok.cells)[0 + (k : Int).toNat * sz + off]? = out[k].cells[j]? := by
        intro sz off j h1 h2 h3
        subst h1 h3
        rw [← tok_get hkn off h2]; simp
      have hnext := plain_snoc (out.take k) out[k]
      rw [← List.take_succ_eq_append_getElem hkn] at hnext
      have hpl : (plainText (out.take k)).length ≤ 1000000 * 1000000 := by
        refine Nat.le_trans (plain_len (n := s.length) fun t ht => htx t (List.mem_of_mem_take ht)) (Nat.mul_le_mul ?_ hs)
        simp; omega
      refine testK_true (by simp; omega) ?_
      ((conv => whnf); (repeat ((with_reducible refine Rest.mk ?_); (conv => whnf))))
      refine dropHead (v := .int .i64 out[k].kind) (hat _ _ 0 (sz61 _) (by omega) rfl) ?_
      ((conv => whnf); (repeat ((with_reducible refine Rest.mk ?_); (conv => whnf))))
      refine testK_split (fun hx0 => ?_) (fun hx0 => ?_) <;> ((conv => whnf); (repeat ((with_reducible refine Rest.mk ?_); (conv => whnf))))
      · have hx1 : out[k].kind = 0 := by simpa using hx0
        have htl := htx _ (List.getElem_mem hkn) hx1
        rw [if_pos hx1] at hnext
        refine testK_true (by simp; omega) ?_
        ((conv => whnf); (repeat ((with_reducible refine Rest.mk ?_); (conv => whnf))))
        refine dropHead (v := .str out[k].text) (hat _ _ 3 (sz61 _) (by omega) rfl) ?_
        ((conv => whnf); (repeat ((with_reducible refine Rest.mk ?_); (conv => whnf))))
        refine testK_true (by simp; omega) ?_
        ((conv => whnf); (repeat ((with_reducible refine Rest.mk ?_); (conv => whnf))))
        rw [wrap_succ (by omega), ← hnext]
        exact ⟨k + 1, _, _, .env (by (repeat' (first | exact LowL.nil _ | refine LowL.cons (.und _) ?_ | refine LowL.cons (.int _ _) ?_ | refine LowL.cons (.str _) ?_ | refine LowL.cons (.bool _) ?_ | refine LowL.cons (.ptr rfl) ?_ | refine LowL.cons (.sl rfl) ?_ | refine LowL.cons (low_vsS _ _) ?_ | refine LowL.cons (low_vsI _ _) ?_ | refine LowL.cons (low_tx rfl _) ?_ | refine LowL.cons .nilS ?_ | refine LowL.cons .nilP ?_ | refine LowL.cons (low_acc rfl _) ?_ | refine LowL.cons (low_toSl rfl _) ?_ | refine LowL.cons (low_bySl rfl _) ?_ | refine LowL.cons (low_toSlE rfl (by simp)) ?_))), ⟨hkn, rfl, rfl⟩, by omega⟩
      · have hx1 : out[k].kind ≠ 0 := by simpa using hx0
        rw [if_neg hx1, List.append_nil] at hnext
        rw [wrap_succ (by omega), ← hnext]
        exact ⟨k + 1, _, _, .env (by (repeat' (first | exact LowL.nil _ | refine LowL.cons (.und _) ?_ | refine LowL.cons (.int _ _) ?_ | refine LowL.cons (.str _) ?_ | refine LowL.cons (.bool _) ?_ | refine LowL.cons (.ptr rfl) ?_ | refine LowL.cons (.sl rfl) ?_ | refine LowL.cons (low_vsS _ _) ?_ | refine LowL.cons (low_vsI _ _) ?_ | refine LowL.cons (low_tx rfl _) ?_ | refine LowL.cons .nilS ?_ | refine LowL.cons .nilP ?_ | refine LowL.cons (low_acc rfl _) ?_ | refine LowL.cons (low_toSl rfl _) ?_ | refine LowL.cons (low_bySl rfl _) ?_ | refine LowL.cons (low_toSlE rfl (by simp)) ?_))), ⟨hkn, rfl, rfl⟩, by omega⟩
    · have hkx : k = out.length := by simp at h; omega
      subst hkx
      exact hend _ _ (by rw [List.take_length])
end Go.Am
end
section
set_option linter.unusedSimpArgs false
namespace Go.Am
open Go Go.Proofs

def Rdr.keep (r : Rdr) (b : UInt8) : Rdr := if (r.sub.getD []).length < 40 then { r with st := 4, sub := some (r.sub.getD [] ++ [b]) } else { r with st := 4, long := true }
def Rdr.endSub (r : Rdr) : Rdr := { (if r.long then { r with st := 0 } else { r with st := 0 }.tell ⟨3, 0, r.opt, r.sub.getD []⟩) with sub := none }
def Rdr.inner (r : Rdr) (act : Int) (b : UInt8) : Rdr :=
  if act = 7 then { r with st := 4, opt := b.toNat, sub := none, long := false }
  else if act = 8 then r.keep b
  else if act = 9 then { r with st := 5 }
  else if act = 10 then r.endSub
  else { r with st := 1, sub := none }.cmdStep b

set_option maxRecDepth 10000
attribute [local irreducible] CallT Ent
theorem inner_ok (r : Rdr) (act : Int) (b : UInt8) (hact : act = 7 ∨ act = 8 ∨ act = 9 ∨ act = 10 ∨ act = 11) (ho : (r.out.getD []).length < 80000000) (hd : (r.data.getD []).length < 90000000) : T 42 [.ptr 0 0, .int .i64 act, .int .u8 b.toNat] [.obj (.rdr r)] (fun v M' ch => v = .tup [] ∧ M' = [.obj (.rdr (r.inner act b))] ∧ ch = [0]) := by
  obtain ⟨bin, st, after, cmd, opt, sub, long, data, out⟩ := r
  refine CallT.by_body Tryd.func42 rfl Tryd.call42 rfl (Ent.open1 (by simp [unfW])) ?_
  rcases hact with rfl | rfl | rfl | rfl | rfl
  · ((conv => whnf); (repeat ((with_reducible refine Rest.mk ?_); (conv => whnf))))
    rw [wrap_byte]
    exact fin_rdr (r' := ⟨bin, 4, after, cmd, b.toNat, none, false, data, out⟩) (a := 1) (b := 2) (c := 3) (by decide) rfl .nilS (low_bySl rfl _) (low_toSl rfl _) (.inl rfl) (.inr rfl) (.inr rfl) low_unit ⟨_, rfl⟩ ⟨rfl, rfl, rfl⟩
  · rcases sub with _ | s
    · ((conv => whnf); (repeat ((with_reducible refine Rest.mk ?_); (conv => whnf))))
      exact fin_rdr (r' := ⟨bin, 4, after, cmd, opt, some ([] ++ [b]), long, data, out⟩) (a := 5) (b := 2) (c := 3) (by decide) rfl (.sl rfl) (low_bySl rfl _) (low_toSl rfl _) (.inr rfl) (.inr rfl) (.inr rfl) low_unit ⟨_, rfl⟩ ⟨rfl, rfl, rfl⟩
    · ((conv => whnf); (repeat ((with_reducible refine Rest.mk ?_); (conv => whnf))))
      repeat' (first | (refine testK_true (b := drawOk _ _ _) (by kernel_rfl) ?_; ((conv => whnf); (repeat ((with_reducible refine Rest.mk ?_); (conv => whnf))))) | (refine testK_split (fun h => ?_) (fun h => ?_) <;> ((conv => whnf); (repeat ((with_reducible refine Rest.mk ?_); (conv => whnf))))))
      all_goals simp only [sz5, by5, sz61, by61, Nat.mul_one, sub_encB, all_encB, decB_encB, encB_length, toks_length, sub_toks] at *
      all_goals try (exfalso; simp at *; done)
      all_goals try (exfalso; simp at *; omega)
      · exact fin_rdr (r' := ⟨bin, 4, after, cmd, opt, some (s ++ [b]), long, data, out⟩) (a := 5) (b := 2) (c := 3) (by decide) rfl (by simp only [bySl, List.length_append, List.length_singleton]; exact .sl rfl) (low_bySl rfl _) (low_toSl rfl _) (.inr (by simp [byRow, sub_encB, sub_one, encB_app, encB_one])) (.inr rfl) (.inr rfl) low_unit ⟨_, rfl⟩ ⟨rfl, by
          have : s.length < 40 := by simp at *; omega
          simp [Rdr.inner, Rdr.keep, this], rfl⟩
      · exact fin_rdr (r' := ⟨bin, 4, after, cmd, opt, some s, true, data, out⟩) (a := 1) (b := 2) (c := 3) (by decide) rfl (low_bySl rfl _) (low_bySl rfl _) (low_toSl rfl _) (.inr rfl) (.inr rfl) (.inr rfl) low_unit ⟨_, rfl⟩ ⟨rfl, by
          have : ¬s.length < 40 := by simp at *; omega
          simp [Rdr.inner, Rdr.keep, this], rfl⟩
  · ((conv => whnf); (repeat ((with_reducible refine Rest.mk ?_); (conv => whnf))))
    exact fin_rdr (r' := ⟨bin, 5, after, cmd, opt, sub, long, data, out⟩) (a := 1) (b := 2) (c := 3) (by decide) rfl (low_bySl rfl _) (low_bySl rfl _) (low_toSl rfl _) (.inr rfl) (.inr rfl) (.inr rfl) low_unit ⟨_, rfl⟩ ⟨rfl, rfl, rfl⟩
  · cases long <;> rcases sub with _ | s <;> ((conv => whnf); (repeat ((with_reducible refine Rest.mk ?_); (conv => whnf))))
    all_goals repeat' (first | (refine testK_true (b := drawOk _ _ _) (by kernel_rfl) ?_; ((conv => whnf); (repeat ((with_reducible refine Rest.mk ?_); (conv => whnf))))) | (refine testK_split (fun h => ?_) (fun h => ?_) <;> ((conv => whnf); (repeat ((with_reducible refine Rest.mk ?_); (conv => whnf))))))
    all_goals simp only [sz5, by5, sz61, by61, Nat.mul_one, sub_encB, all_encB, decB_encB, encB_length, toks_length, sub_toks] at *
    all_goals try (exfalso; simp at *; done)
    all_goals try (exfalso; simp at *; omega)
    · refine call_rdr (r := ⟨bin, 0, after, cmd, opt, none, false, data, out⟩) (g := fun r' v => r' = Rdr.tell ⟨bin, 0, after, cmd, opt, none, false, data, out⟩ ⟨3, 0, opt, []⟩ ∧ v = .tup []) (a := 1) (b := 2) (c := 3) ((tell_ok _ ⟨3, 0, opt, []⟩ (by simp at ho ⊢; omega)).mono fun v M' ch ⟨h1, h2, h3⟩ _ => ⟨⟨_, ⟨rfl, h1⟩, h2⟩, h3⟩) (by decide) rfl (low_bySl rfl _) (low_bySl rfl _) (low_toSl rfl _) (.inr rfl) (.inr rfl) (.inr rfl) (tell_args ⟨3, 0, opt, []⟩) ?_
      rintro r' v ⟨rfl, rfl⟩
      refine ⟨rfl, ?_⟩
      simp only [Rdr.inner, Rdr.endSub]
      ((conv => whnf); (repeat ((with_reducible refine Rest.mk ?_); (conv => whnf))))
      exact fin_rdr (r' := { Rdr.tell ⟨bin, 0, after, cmd, opt, none, false, data, out⟩ ⟨3, 0, opt, []⟩ with sub := none }) (a := 4) (b := 5) (c := 6) (by decide) rfl .nilS (low_bySl rfl _) (low_toSl rfl _) (.inl rfl) (.inr rfl) (.inr rfl) low_unit ⟨_, rfl⟩ ⟨rfl, rfl, rfl⟩
    · refine call_rdr (r := ⟨bin, 0, after, cmd, opt, some s, false, data, out⟩) (g := fun r' v => r' = Rdr.tell ⟨bin, 0, after, cmd, opt, some s, false, data, out⟩ ⟨3, 0, opt, s⟩ ∧ v = .tup []) (a := 1) (b := 2) (c := 3) ((tell_ok _ ⟨3, 0, opt, s⟩ (by simp at ho ⊢; omega)).mono fun v M' ch ⟨h1, h2, h3⟩ _ => ⟨⟨_, ⟨rfl, h1⟩, h2⟩, h3⟩) (by decide) rfl (low_bySl rfl _) (low_bySl rfl _) (low_toSl rfl _) (.inr rfl) (.inr rfl) (.inr rfl) (tell_args ⟨3, 0, opt, s⟩) ?_
      rintro r' v ⟨rfl, rfl⟩
      refine ⟨rfl, ?_⟩
      simp only [Rdr.inner, Rdr.endSub]
      ((conv => whnf); (repeat ((with_reducible refine Rest.mk ?_); (conv => whnf))))
      exact fin_rdr (r' := { Rdr.tell ⟨bin, 0, after, cmd, opt, some s, false, data, out⟩ ⟨3, 0, opt, s⟩ with sub := none }) (a := 4) (b := 5) (c := 6) (by decide) rfl .nilS (low_bySl rfl _) (low_toSl rfl _) (.inl rfl) (.inr rfl) (.inr rfl) low_unit ⟨_, rfl⟩ ⟨rfl, rfl, rfl⟩
    · exact fin_rdr (r' := ⟨bin, 0, after, cmd, opt, none, true, data, out⟩) (a := 1) (b := 2) (c := 3) (by decide) rfl .nilS (low_bySl rfl _) (low_toSl rfl _) (.inl rfl) (.inr rfl) (.inr rfl) low_unit ⟨_, rfl⟩ ⟨rfl, rfl, rfl⟩
    · exact fin_rdr (r' := ⟨bin, 0, after, cmd, opt, none, true, data, out⟩) (a := 1) (b := 2) (c := 3) (by decide) rfl .nilS (low_bySl rfl _) (low_toSl rfl _) (.inl rfl) (.inr rfl) (.inr rfl) low_unit ⟨_, rfl⟩ ⟨rfl, rfl, rfl⟩
  · ((conv => whnf); (repeat ((with_reducible refine Rest.mk ?_); (conv => whnf))))
    refine call_rdr (r := ⟨bin, 1, after, cmd, opt, none, long, data, out⟩) (g := fun r' v => r' = Rdr.cmdStep ⟨bin, 1, after, cmd, opt, none, long, data, out⟩ b ∧ v = .tup []) (a := 1) (b := 2) (c := 3) ((cmdStep_ok (⟨bin, 1, after, cmd, opt, none, long, data, out⟩ : Rdr) b rfl ho hd).mono fun v M' ch ⟨h1, h2, h3⟩ _ => ⟨⟨_, ⟨rfl, h1⟩, h2⟩, h3⟩) (by decide) rfl .nilS (low_bySl rfl _) (low_toSl rfl _) (.inl rfl) (.inr rfl) (.inr rfl) (byte_args b) ?_
    rintro r' v ⟨rfl, rfl⟩
    refine ⟨rfl, ?_⟩
    simp only [Rdr.inner]
    ((conv => whnf); (repeat ((with_reducible refine Rest.mk ?_); (conv => whnf))))
    exact fin_rdr (r' := Rdr.cmdStep ⟨bin, 1, after, cmd, opt, none, long, data, out⟩ b) (a := 4) (b := 5) (c := 6) (by decide) rfl (low_bySl rfl _) (low_bySl rfl _) (low_toSl rfl _) (.inr rfl) (.inr rfl) (.inr rfl) low_unit ⟨_, rfl⟩ ⟨rfl, rfl, rfl⟩
end Go.Am
end
section
set_option linter.unusedSimpArgs false
namespace Go.Am
open Go Go.Proofs

def Rdr.step (r : Rdr) (b : UInt8) : Rdr :=
  if r.st = 0 then (if cls b = 0 then { r with st := 1, after := false } else { r with st := 0 }.byte b)
  else if r.st = 1 then r.cmdStep b
  else if r.st = 2 then { r with st := 0 }.tell ⟨2, r.cmd, b.toNat, []⟩
  else if r.st = 3 then r.inner 7 b
  else if r.st = 4 then (if cls b = 0 then r.inner 9 b else r.inner 8 b)
  else (if cls b = 0 then r.inner 8 b else if cls b = 1 then r.inner 10 b else r.inner 11 b)

theorem inner_args (a : Int) (b : UInt8) : LowL [0] [.ptr 0 0, .int .i64 a, .int .u8 b.toNat] [.ptr 0 0, .int .i64 a, .int .u8 b.toNat] := .cons (.ptr rfl) (.cons (.int _ _) (.cons (.int _ _) (.nil _)))

set_option maxRecDepth 10000
attribute [local irreducible] CallT Ent
theorem step0_ok (r : Rdr) (b : UInt8) (hst : r.st = 0) (ho : (r.out.getD []).length < 80000000) (hd : (r.data.getD []).length < 90000000) : T 30 [.ptr 0 0, .int .u8 b.toNat] [.obj (.rdr r)] (fun v M' ch => v = .tup [] ∧ M' = [.obj (.rdr (r.step b))] ∧ ch = [0]) := by
  obtain ⟨bin, st, after, cmd, opt, sub, long, data, out⟩ := r
  obtain rfl : st = 0 := hst
  refine CallT.by_body Tryd.func30 rfl Tryd.call30 rfl (Ent.open1 (by simp [unfW])) ?_
  ((conv => whnf); (repeat ((with_reducible refine Rest.mk ?_); (conv => whnf))))
  refine testK_true (b := drawOk _ _ _) (by kernel_rfl) ?_
  ((conv => whnf); (repeat ((with_reducible refine Rest.mk ?_); (conv => whnf))))
  refine (class_ok b _).mono ?_
  rintro v M' ch ⟨rfl, rfl, rfl⟩ _
  simp only [Rdr.step]
  rcases cls_cases b with h | h | h | h | h <;> rw [h] <;> (((conv => whnf); (repeat ((with_reducible refine Rest.mk ?_); (conv => whnf)))))
  · exact fin_rdr (r' := (⟨bin, 1, false, cmd, opt, sub, long, data, out⟩ : Rdr)) (a := 1) (b := 2) (c := 3) (by decide) rfl (low_bySl rfl _) (low_bySl rfl _) (low_toSl rfl _) (.inr rfl) (.inr rfl) (.inr rfl) low_unit ⟨_, rfl⟩ ⟨rfl, rfl, rfl⟩
  · refine call_rdr (r := (⟨bin, 0, after, cmd, opt, sub, long, data, out⟩ : Rdr)) (g := fun r' v => r' = Rdr.byte (⟨bin, 0, after, cmd, opt, sub, long, data, out⟩ : Rdr) b ∧ v = .tup []) (a := 1) (b := 2) (c := 3) ((byte_ok (⟨bin, 0, after, cmd, opt, sub, long, data, out⟩ : Rdr) b (by simp at hd ⊢; omega)).mono fun v M' ch ⟨h1, h2, h3⟩ _ => ⟨⟨_, ⟨rfl, h1⟩, h2⟩, h3⟩) (by decide) rfl (low_bySl rfl _) (low_bySl rfl _) (low_toSl rfl _) (.inr rfl) (.inr rfl) (.inr rfl) (byte_args b) ?_
    rintro r' v ⟨rfl, rfl⟩
    refine ⟨rfl, ?_⟩
    ((conv => whnf); (repeat ((with_reducible refine Rest.mk ?_); (conv => whnf))))
    exact fin_rdr (r' := Rdr.byte (⟨bin, 0, after, cmd, opt, sub, long, data, out⟩ : Rdr) b) (a := 4) (b := 5) (c := 6) (by decide) rfl (low_bySl rfl _) (low_bySl rfl _) (low_toSl rfl _) (.inr rfl) (.inr rfl) (.inr rfl) low_unit ⟨_, rfl⟩ ⟨rfl, rfl, rfl⟩
  · refine call_rdr (r := (⟨bin, 0, after, cmd, opt, sub, long, data, out⟩ : Rdr)) (g := fun r' v => r' = Rdr.byte (⟨bin, 0, after, cmd, opt, sub, long, data, out⟩ : Rdr) b ∧ v = .tup []) (a := 1) (b := 2) (c := 3) ((byte_ok (⟨bin, 0, after, cmd, opt, sub, long, data, out⟩ : Rdr) b (by simp at hd ⊢; omega)).mono fun v M' ch ⟨h1, h2, h3⟩ _ => ⟨⟨_, ⟨rfl, h1⟩, h2⟩, h3⟩) (by decide) rfl (low_bySl rfl _) (low_bySl rfl _) (low_toSl rfl _) (.inr rfl) (.inr rfl) (.inr rfl) (byte_args b) ?_
    rintro r' v ⟨rfl, rfl⟩
    refine ⟨rfl, ?_⟩
    ((conv => whnf); (repeat ((with_reducible refine Rest.mk ?_); (conv => whnf))))
    exact fin_rdr (r' := Rdr.byte (⟨bin, 0, after, cmd, opt, sub, long, data, out⟩ : Rdr) b) (a := 4) (b := 5) (c := 6) (by decide) rfl (low_bySl rfl _) (low_bySl rfl _) (low_toSl rfl _) (.inr rfl) (.inr rfl) (.inr rfl) low_unit ⟨_, rfl⟩ ⟨rfl, rfl, rfl⟩
  · refine call_rdr (r := (⟨bin, 0, after, cmd, opt, sub, long, data, out⟩ : Rdr)) (g := fun r' v => r' = Rdr.byte (⟨bin, 0, after, cmd, opt, sub, long, data, out⟩ : Rdr) b ∧ v = .tup []) (a := 1) (b := 2) (c := 3) ((byte_ok (⟨bin, 0, after, cmd, opt, sub, long, data, out⟩ : Rdr) b (by simp at hd ⊢; omega)).mono fun v M' ch ⟨h1, h2, h3⟩ _ => ⟨⟨_, ⟨rfl, h1⟩, h2⟩, h3⟩) (by decide) rfl (low_bySl rfl _) (low_bySl rfl _) (low_toSl rfl _) (.inr rfl) (.inr rfl) (.inr rfl) (byte_args b) ?_
    rintro r' v ⟨rfl, rfl⟩
    refine ⟨rfl, ?_⟩
    ((conv => whnf); (repeat ((with_reducible refine Rest.mk ?_); (conv => whnf))))
    exact fin_rdr (r' := Rdr.byte (⟨bin, 0, after, cmd, opt, sub, long, data, out⟩ : Rdr) b) (a := 4) (b := 5) (c := 6) (by decide) rfl (low_bySl rfl _) (low_bySl rfl _) (low_toSl rfl _) (.inr rfl) (.inr rfl) (.inr rfl) low_unit ⟨_, rfl⟩ ⟨rfl, rfl, rfl⟩
  · refine call_rdr (r := (⟨bin, 0, after, cmd, opt, sub, long, data, out⟩ : Rdr)) (g := fun r' v => r' = Rdr.byte (⟨bin, 0, after, cmd, opt, sub, long, data, out⟩ : Rdr) b ∧ v = .tup []) (a := 1) (b := 2) (c := 3) ((byte_ok (⟨bin, 0, after, cmd, opt, sub, long, data, out⟩ : Rdr) b (by simp at hd ⊢; omega)).mono fun v M' ch ⟨h1, h2, h3⟩ _ => ⟨⟨_, ⟨rfl, h1⟩, h2⟩, h3⟩) (by decide) rfl (low_bySl rfl _) (low_bySl rfl _) (low_toSl rfl _) (.inr rfl) (.inr rfl) (.inr rfl) (byte_args b) ?_
    rintro r' v ⟨rfl, rfl⟩
    refine ⟨rfl, ?_⟩
    ((conv => whnf); (repeat ((with_reducible refine Rest.mk ?_); (conv => whnf))))
    exact fin_rdr (r' := Rdr.byte (⟨bin, 0, after, cmd, opt, sub, long, data, out⟩ : Rdr) b) (a := 4) (b := 5) (c := 6) (by decide) rfl (low_bySl rfl _) (low_bySl rfl _) (low_toSl rfl _) (.inr rfl) (.inr rfl) (.inr rfl) low_unit ⟨_, rfl⟩ ⟨rfl, rfl, rfl⟩

theorem step2_ok (r : Rdr) (b : UInt8) (hst : r.st = 2) (ho : (r.out.getD []).length < 80000000) (hd : (r.data.getD []).length < 90000000) : T 30 [.ptr 0 0, .int .u8 b.toNat] [.obj (.rdr r)] (fun v M' ch => v = .tup [] ∧ M' = [.obj (.rdr (r.step b))] ∧ ch = [0]) := by
  obtain ⟨bin, st, after, cmd, opt, sub, long, data, out⟩ := r
  obtain rfl : st = 2 := hst
  refine CallT.by_body Tryd.func30 rfl Tryd.call30 rfl (Ent.open1 (by simp [unfW])) ?_
  ((conv => whnf); (repeat ((with_reducible refine Rest.mk ?_); (conv => whnf))))
  refine testK_true (b := drawOk _ _ _) (by kernel_rfl) ?_
  ((conv => whnf); (repeat ((with_reducible refine Rest.mk ?_); (conv => whnf))))
  refine (class_ok b _).mono ?_
  rintro v M' ch ⟨rfl, rfl, rfl⟩ _
  simp only [Rdr.step]
  rcases cls_cases b with h | h | h | h | h <;> rw [h] <;> (((conv => whnf); (repeat ((with_reducible refine Rest.mk ?_); (conv => whnf)))))
  · rw [wrap_byte]
    refine call_rdr (r := (⟨bin, 0, after, cmd, opt, sub, long, data, out⟩ : Rdr)) (g := fun r' v => r' = Rdr.tell (⟨bin, 0, after, cmd, opt, sub, long, data, out⟩ : Rdr) ⟨2, cmd, b.toNat, []⟩ ∧ v = .tup []) (a := 1) (b := 2) (c := 3) ((tell_ok (⟨bin, 0, after, cmd, opt, sub, long, data, out⟩ : Rdr) ⟨2, cmd, b.toNat, []⟩ (by simp at ho ⊢; omega)).mono fun v M' ch ⟨h1, h2, h3⟩ _ => ⟨⟨_, ⟨rfl, h1⟩, h2⟩, h3⟩) (by decide) rfl (low_bySl rfl _) (low_bySl rfl _) (low_toSl rfl _) (.inr rfl) (.inr rfl) (.inr rfl) (tell_args ⟨2, cmd, b.toNat, []⟩) ?_
    rintro r' v ⟨rfl, rfl⟩
    refine ⟨rfl, ?_⟩
    ((conv => whnf); (repeat ((with_reducible refine Rest.mk ?_); (conv => whnf))))
    exact fin_rdr (r' := Rdr.tell (⟨bin, 0, after, cmd, opt, sub, long, data, out⟩ : Rdr) ⟨2, cmd, b.toNat, []⟩) (a := 4) (b := 5) (c := 6) (by decide) rfl (low_bySl rfl _) (low_bySl rfl _) (low_toSl rfl _) (.inr rfl) (.inr rfl) (.inr rfl) low_unit ⟨_, rfl⟩ ⟨rfl, rfl, rfl⟩
  · rw [wrap_byte]
    refine call_rdr (r := (⟨bin, 0, after, cmd, opt, sub, long, data, out⟩ : Rdr)) (g := fun r' v => r' = Rdr.tell (⟨bin, 0, after, cmd, opt, sub, long, data, out⟩ : Rdr) ⟨2, cmd, b.toNat, []⟩ ∧ v = .tup []) (a := 1) (b := 2) (c := 3) ((tell_ok (⟨bin, 0, after, cmd, opt, sub, long, data, out⟩ : Rdr) ⟨2, cmd, b.toNat, []⟩ (by simp at ho ⊢; omega)).mono fun v M' ch ⟨h1, h2, h3⟩ _ => ⟨⟨_, ⟨rfl, h1⟩, h2⟩, h3⟩) (by decide) rfl (low_bySl rfl _) (low_bySl rfl _) (low_toSl rfl _) (.inr rfl) (.inr rfl) (.inr rfl) (tell_args ⟨2, cmd, b.toNat, []⟩) ?_
    rintro r' v ⟨rfl, rfl⟩
    refine ⟨rfl, ?_⟩
    ((conv => whnf); (repeat ((with_reducible refine Rest.mk ?_); (conv => whnf))))
    exact fin_rdr (r' := Rdr.tell (⟨bin, 0, after, cmd, opt, sub, long, data, out⟩ : Rdr) ⟨2, cmd, b.toNat, []⟩) (a := 4) (b := 5) (c := 6) (by decide) rfl (low_bySl rfl _) (low_bySl rfl _) (low_toSl rfl _) (.inr rfl) (.inr rfl) (.inr rfl) low_unit ⟨_, rfl⟩ ⟨rfl, rfl, rfl⟩
  · rw [wrap_byte]
    refine call_rdr (r := (⟨bin, 0, after, cmd, opt, sub, long, data, out⟩ : Rdr)) (g := fun r' v => r' = Rdr.tell (⟨bin, 0, after, cmd, opt, sub, long, data, out⟩ : Rdr) ⟨2, cmd, b.toNat, []⟩ ∧ v = .tup []) (a := 1) (b := 2) (c := 3) ((tell_ok (⟨bin, 0, after, cmd, opt, sub, long, data, out⟩ : Rdr) ⟨2, cmd, b.toNat, []⟩ (by simp at ho ⊢; omega)).mono fun v M' ch ⟨h1, h2, h3⟩ _ => ⟨⟨_, ⟨rfl, h1⟩, h2⟩, h3⟩) (by decide) rfl (low_bySl rfl _) (low_bySl rfl _) (low_toSl rfl _) (.inr rfl) (.inr rfl) (.inr rfl) (tell_args ⟨2, cmd, b.toNat, []⟩) ?_
    rintro r' v ⟨rfl, rfl⟩
    refine ⟨rfl, ?_⟩
    ((conv => whnf); (repeat ((with_reducible refine Rest.mk ?_); (conv => whnf))))
    exact fin_rdr (r' := Rdr.tell (⟨bin, 0, after, cmd, opt, sub, long, data, out⟩ : Rdr) ⟨2, cmd, b.toNat, []⟩) (a := 4) (b := 5) (c := 6) (by decide) rfl (low_bySl rfl _) (low_bySl rfl _) (low_toSl rfl _) (.inr rfl) (.inr rfl) (.inr rfl) low_unit ⟨_, rfl⟩ ⟨rfl, rfl, rfl⟩
  · rw [wrap_byte]
    refine call_rdr (r := (⟨bin, 0, after, cmd, opt, sub, long, data, out⟩ : Rdr)) (g := fun r' v => r' = Rdr.tell (⟨bin, 0, after, cmd, opt, sub, long, data, out⟩ : Rdr) ⟨2, cmd, b.toNat, []⟩ ∧ v = .tup []) (a := 1) (b := 2) (c := 3) ((tell_ok (⟨bin, 0, after, cmd, opt, sub, long, data, out⟩ : Rdr) ⟨2, cmd, b.toNat, []⟩ (by simp at ho ⊢; omega)).mono fun v M' ch ⟨h1, h2, h3⟩ _ => ⟨⟨_, ⟨rfl, h1⟩, h2⟩, h3⟩) (by decide) rfl (low_bySl rfl _) (low_bySl rfl _) (low_toSl rfl _) (.inr rfl) (.inr rfl) (.inr rfl) (tell_args ⟨2, cmd, b.toNat, []⟩) ?_
    rintro r' v ⟨rfl, rfl⟩
    refine ⟨rfl, ?_⟩
    ((conv => whnf); (repeat ((with_reducible refine Rest.mk ?_); (conv => whnf))))
    exact fin_rdr (r' := Rdr.tell (⟨bin, 0, after, cmd, opt, sub, long, data, out⟩ : Rdr) ⟨2, cmd, b.toNat, []⟩) (a := 4) (b := 5) (c := 6) (by decide) rfl (low_bySl rfl _) (low_bySl rfl _) (low_toSl rfl _) (.inr rfl) (.inr rfl) (.inr rfl) low_unit ⟨_, rfl⟩ ⟨rfl, rfl, rfl⟩
  · rw [wrap_byte]
    refine call_rdr (r := (⟨bin, 0, after, cmd, opt, sub, long, data, out⟩ : Rdr)) (g := fun r' v => r' = Rdr.tell (⟨bin, 0, after, cmd, opt, sub, long, data, out⟩ : Rdr) ⟨2, cmd, b.toNat, []⟩ ∧ v = .tup []) (a := 1) (b := 2) (c := 3) ((tell_ok (⟨bin, 0, after, cmd, opt, sub, long, data, out⟩ : Rdr) ⟨2, cmd, b.toNat, []⟩ (by simp at ho ⊢; omega)).mono fun v M' ch ⟨h1, h2, h3⟩ _ => ⟨⟨_, ⟨rfl, h1⟩, h2⟩, h3⟩) (by decide) rfl (low_bySl rfl _) (low_bySl rfl _) (low_toSl rfl _) (.inr rfl) (.inr rfl) (.inr rfl) (tell_args ⟨2, cmd, b.toNat, []⟩) ?_
    rintro r' v ⟨rfl, rfl⟩
    refine ⟨rfl, ?_⟩
    ((conv => whnf); (repeat ((with_reducible refine Rest.mk ?_); (conv => whnf))))
    exact fin_rdr (r' := Rdr.tell (⟨bin, 0, after, cmd, opt, sub, long, data, out⟩ : Rdr) ⟨2, cmd, b.toNat, []⟩) (a := 4) (b := 5) (c := 6) (by decide) rfl (low_bySl rfl _) (low_bySl rfl _) (low_toSl rfl _) (.inr rfl) (.inr rfl) (.inr rfl) low_unit ⟨_, rfl⟩ ⟨rfl, rfl, rfl⟩

theorem step3_ok (r : Rdr) (b : UInt8) (hst : r.st = 3) (ho : (r.out.getD []).length < 80000000) (hd : (r.data.getD []).length < 90000000) : T 30 [.ptr 0 0, .int .u8 b.toNat] [.obj (.rdr r)] (fun v M' ch => v = .tup [] ∧ M' = [.obj (.rdr (r.step b))] ∧ ch = [0]) := by
  obtain ⟨bin, st, after, cmd, opt, sub, long, data, out⟩ := r
  obtain rfl : st = 3 := hst
  refine CallT.by_body Tryd.func30 rfl Tryd.call30 rfl (Ent.open1 (by simp [unfW])) ?_
  ((conv => whnf); (repeat ((with_reducible refine Rest.mk ?_); (conv => whnf))))
  refine testK_true (b := drawOk _ _ _) (by kernel_rfl) ?_
  ((conv => whnf); (repeat ((with_reducible refine Rest.mk ?_); (conv => whnf))))
  refine (class_ok b _).mono ?_
  rintro v M' ch ⟨rfl, rfl, rfl⟩ _
  simp only [Rdr.step]
  rcases cls_cases b with h | h | h | h | h <;> rw [h] <;> (((conv => whnf); (repeat ((with_reducible refine Rest.mk ?_); (conv => whnf)))))
  · refine call_rdr (r := (⟨bin, 3, after, cmd, opt, sub, long, data, out⟩ : Rdr)) (g := fun r' v => r' = Rdr.inner (⟨bin, 3, after, cmd, opt, sub, long, data, out⟩ : Rdr) 7 b ∧ v = .tup []) (a := 1) (b := 2) (c := 3) ((inner_ok (⟨bin, 3, after, cmd, opt, sub, long, data, out⟩ : Rdr) 7 b (by simp) ho hd).mono fun v M' ch ⟨h1, h2, h3⟩ _ => ⟨⟨_, ⟨rfl, h1⟩, h2⟩, h3⟩) (by decide) rfl (low_bySl rfl _) (low_bySl rfl _) (low_toSl rfl _) (.inr rfl) (.inr rfl) (.inr rfl) (inner_args 7 b) ?_
    rintro r' v ⟨rfl, rfl⟩
    refine ⟨rfl, ?_⟩
    ((conv => whnf); (repeat ((with_reducible refine Rest.mk ?_); (conv => whnf))))
    exact fin_rdr (r' := Rdr.inner (⟨bin, 3, after, cmd, opt, sub, long, data, out⟩ : Rdr) 7 b) (a := 4) (b := 5) (c := 6) (by decide) rfl (low_bySl rfl _) (low_bySl rfl _) (low_toSl rfl _) (.inr rfl) (.inr rfl) (.inr rfl) low_unit ⟨_, rfl⟩ ⟨rfl, rfl, rfl⟩
  · refine call_rdr (r := (⟨bin, 3, after, cmd, opt, sub, long, data, out⟩ : Rdr)) (g := fun r' v => r' = Rdr.inner (⟨bin, 3, after, cmd, opt, sub, long, data, out⟩ : Rdr) 7 b ∧ v = .tup []) (a := 1) (b := 2) (c := 3) ((inner_ok (⟨bin, 3, after, cmd, opt, sub, long, data, out⟩ : Rdr) 7 b (by simp) ho hd).mono fun v M' ch ⟨h1, h2, h3⟩ _ => ⟨⟨_, ⟨rfl, h1⟩, h2⟩, h3⟩) (by decide) rfl (low_bySl rfl _) (low_bySl rfl _) (low_toSl rfl _) (.inr rfl) (.inr rfl) (.inr rfl) (inner_args 7 b) ?_
    rintro r' v ⟨rfl, rfl⟩
    refine ⟨rfl, ?_⟩
    ((conv => whnf); (repeat ((with_reducible refine Rest.mk ?_); (conv => whnf))))
    exact fin_rdr (r' := Rdr.inner (⟨bin, 3, after, cmd, opt, sub, long, data, out⟩ : Rdr) 7 b) (a := 4) (b := 5) (c := 6) (by decide) rfl (low_bySl rfl _) (low_bySl rfl _) (low_toSl rfl _) (.inr rfl) (.inr rfl) (.inr rfl) low_unit ⟨_, rfl⟩ ⟨rfl, rfl, rfl⟩
  · refine call_rdr (r := (⟨bin, 3, after, cmd, opt, sub, long, data, out⟩ : Rdr)) (g := fun r' v => r' = Rdr.inner (⟨bin, 3, after, cmd, opt, sub, long, data, out⟩ : Rdr) 7 b ∧ v = .tup []) (a := 1) (b := 2) (c := 3) ((inner_ok (⟨bin, 3, after, cmd, opt, sub, long, data, out⟩ : Rdr) 7 b (by simp) ho hd).mono fun v M' ch ⟨h1, h2, h3⟩ _ => ⟨⟨_, ⟨rfl, h1⟩, h2⟩, h3⟩) (by decide) rfl (low_bySl rfl _) (low_bySl rfl _) (low_toSl rfl _) (.inr rfl) (.inr rfl) (.inr rfl) (inner_args 7 b) ?_
    rintro r' v ⟨rfl, rfl⟩
    refine ⟨rfl, ?_⟩
    ((conv => whnf); (repeat ((with_reducible refine Rest.mk ?_); (conv => whnf))))
    exact fin_rdr (r' := Rdr.inner (⟨bin, 3, after, cmd, opt, sub, long, data, out⟩ : Rdr) 7 b) (a := 4) (b := 5) (c := 6) (by decide) rfl (low_bySl rfl _) (low_bySl rfl _) (low_toSl rfl _) (.inr rfl) (.inr rfl) (.inr rfl) low_unit ⟨_, rfl⟩ ⟨rfl, rfl, rfl⟩
  · refine call_rdr (r := (⟨bin, 3, after, cmd, opt, sub, long, data, out⟩ : Rdr)) (g := fun r' v => r' = Rdr.inner (⟨bin, 3, after, cmd, opt, sub, long, data, out⟩ : Rdr) 7 b ∧ v = .tup []) (a := 1) (b := 2) (c := 3) ((inner_ok (⟨bin, 3, after, cmd, opt, sub, long, data, out⟩ : Rdr) 7 b (by simp) ho hd).mono fun v M' ch ⟨h1, h2, h3⟩ _ => ⟨⟨_, ⟨rfl, h1⟩, h2⟩, h3⟩) (by decide) rfl (low_bySl rfl _) (low_bySl rfl _) (low_toSl rfl _) (.inr rfl) (.inr rfl) (.inr rfl) (inner_args 7 b) ?_
    rintro r' v ⟨rfl, rfl⟩
    refine ⟨rfl, ?_⟩
    ((conv => whnf); (repeat ((with_reducible refine Rest.mk ?_); (conv => whnf))))
    exact fin_rdr (r' := Rdr.inner (⟨bin, 3, after, cmd, opt, sub, long, data, out⟩ : Rdr) 7 b) (a := 4) (b := 5) (c := 6) (by decide) rfl (low_bySl rfl _) (low_bySl rfl _) (low_toSl rfl _) (.inr rfl) (.inr rfl) (.inr rfl) low_unit ⟨_, rfl⟩ ⟨rfl, rfl, rfl⟩
  · refine call_rdr (r := (⟨bin, 3, after, cmd, opt, sub, long, data, out⟩ : Rdr)) (g := fun r' v => r' = Rdr.inner (⟨bin, 3, after, cmd, opt, sub, long, data, out⟩ : Rdr) 7 b ∧ v = .tup []) (a := 1) (b := 2) (c := 3) ((inner_ok (⟨bin, 3, after, cmd, opt, sub, long, data, out⟩ : Rdr) 7 b (by simp) ho hd).mono fun v M' ch ⟨h1, h2, h3⟩ _ => ⟨⟨_, ⟨rfl, h1⟩, h2⟩, h3⟩) (by decide) rfl (low_bySl rfl _) (low_bySl rfl _) (low_toSl rfl _) (.inr rfl) (.inr rfl) (.inr rfl) (inner_args 7 b) ?_
    rintro r' v ⟨rfl, rfl⟩
    refine ⟨rfl, ?_⟩
    ((conv => whnf); (repeat ((with_reducible refine Rest.mk ?_); (conv => whnf))))
    exact fin_rdr (r' := Rdr.inner (⟨bin, 3, after, cmd, opt, sub, long, data, out⟩ : Rdr) 7 b) (a := 4) (b := 5) (c := 6) (by decide) rfl (low_bySl rfl _) (low_bySl rfl _) (low_toSl rfl _) (.inr rfl) (.inr rfl) (.inr rfl) low_unit ⟨_, rfl⟩ ⟨rfl, rfl, rfl⟩

theorem step4_ok (r : Rdr) (b : UInt8) (hst : r.st = 4) (ho : (r.out.getD []).length < 80000000) (hd : (r.data.getD []).length < 90000000) : T 30 [.ptr 0 0, .int .u8 b.toNat] [.obj (.rdr r)] (fun v M' ch => v = .tup [] ∧ M' = [.obj (.rdr (r.step b))] ∧ ch = [0]) := by
  obtain ⟨bin, st, after, cmd, opt, sub, long, data, out⟩ := r
  obtain rfl : st = 4 := hst
  refine CallT.by_body Tryd.func30 rfl Tryd.call30 rfl (Ent.open1 (by simp [unfW])) ?_
  ((conv => whnf); (repeat ((with_reducible refine Rest.mk ?_); (conv => whnf))))
  refine testK_true (b := drawOk _ _ _) (by kernel_rfl) ?_
  ((conv => whnf); (repeat ((with_reducible refine Rest.mk ?_); (conv => whnf))))
  refine (class_ok b _).mono ?_
  rintro v M' ch ⟨rfl, rfl, rfl⟩ _
  simp only [Rdr.step]
  rcases cls_cases b with h | h | h | h | h <;> rw [h] <;> (((conv => whnf); (repeat ((with_reducible refine Rest.mk ?_); (conv => whnf)))))
  · refine call_rdr (r := (⟨bin, 4, after, cmd, opt, sub, long, data, out⟩ : Rdr)) (g := fun r' v => r' = Rdr.inner (⟨bin, 4, after, cmd, opt, sub, long, data, out⟩ : Rdr) 9 b ∧ v = .tup []) (a := 1) (b := 2) (c := 3) ((inner_ok (⟨bin, 4, after, cmd, opt, sub, long, data, out⟩ : Rdr) 9 b (by simp) ho hd).mono fun v M' ch ⟨h1, h2, h3⟩ _ => ⟨⟨_, ⟨rfl, h1⟩, h2⟩, h3⟩) (by decide) rfl (low_bySl rfl _) (low_bySl rfl _) (low_toSl rfl _) (.inr rfl) (.inr rfl) (.inr rfl) (inner_args 9 b) ?_
    rintro r' v ⟨rfl, rfl⟩
    refine ⟨rfl, ?_⟩
    ((conv => whnf); (repeat ((with_reducible refine Rest.mk ?_); (conv => whnf))))
    exact fin_rdr (r' := Rdr.inner (⟨bin, 4, after, cmd, opt, sub, long, data, out⟩ : Rdr) 9 b) (a := 4) (b := 5) (c := 6) (by decide) rfl (low_bySl rfl _) (low_bySl rfl _) (low_toSl rfl _) (.inr rfl) (.inr rfl) (.inr rfl) low_unit ⟨_, rfl⟩ ⟨rfl, rfl, rfl⟩
  · refine call_rdr (r := (⟨bin, 4, after, cmd, opt, sub, long, data, out⟩ : Rdr)) (g := fun r' v => r' = Rdr.inner (⟨bin, 4, after, cmd, opt, sub, long, data, out⟩ : Rdr) 8 b ∧ v = .tup []) (a := 1) (b := 2) (c := 3) ((inner_ok (⟨bin, 4, after, cmd, opt, sub, long, data, out⟩ : Rdr) 8 b (by simp) ho hd).mono fun v M' ch ⟨h1, h2, h3⟩ _ => ⟨⟨_, ⟨rfl, h1⟩, h2⟩, h3⟩) (by decide) rfl (low_bySl rfl _) (low_bySl rfl _) (low_toSl rfl _) (.inr rfl) (.inr rfl) (.inr rfl) (inner_args 8 b) ?_
    rintro r' v ⟨rfl, rfl⟩
    refine ⟨rfl, ?_⟩
    ((conv => whnf); (repeat ((with_reducible refine Rest.mk ?_); (conv => whnf))))
    exact fin_rdr (r' := Rdr.inner (⟨bin, 4, after, cmd, opt, sub, long, data, out⟩ : Rdr) 8 b) (a := 4) (b := 5) (c := 6) (by decide) rfl (low_bySl rfl _) (low_bySl rfl _) (low_toSl rfl _) (.inr rfl) (.inr rfl) (.inr rfl) low_unit ⟨_, rfl⟩ ⟨rfl, rfl, rfl⟩
  · refine call_rdr (r := (⟨bin, 4, after, cmd, opt, sub, long, data, out⟩ : Rdr)) (g := fun r' v => r' = Rdr.inner (⟨bin, 4, after, cmd, opt, sub, long, data, out⟩ : Rdr) 8 b ∧ v = .tup []) (a := 1) (b := 2) (c := 3) ((inner_ok (⟨bin, 4, after, cmd, opt, sub, long, data, out⟩ : Rdr) 8 b (by simp) ho hd).mono fun v M' ch ⟨h1, h2, h3⟩ _ => ⟨⟨_, ⟨rfl, h1⟩, h2⟩, h3⟩) (by decide) rfl (low_bySl rfl _) (low_bySl rfl _) (low_toSl rfl _) (.inr rfl) (.inr rfl) (.inr rfl) (inner_args 8 b) ?_
    rintro r' v ⟨rfl, rfl⟩
    refine ⟨rfl, ?_⟩
    ((conv => whnf); (repeat ((with_reducible refine Rest.mk ?_); (conv => whnf))))
    exact fin_rdr (r' := Rdr.inner (⟨bin, 4, after, cmd, opt, sub, long, data, out⟩ : Rdr) 8 b) (a := 4) (b := 5) (c := 6) (by decide) rfl (low_bySl rfl _) (low_bySl rfl _) (low_toSl rfl _) (.inr rfl) (.inr rfl) (.inr rfl) low_unit ⟨_, rfl⟩ ⟨rfl, rfl, rfl⟩
  · refine call_rdr (r := (⟨bin, 4, after, cmd, opt, sub, long, data, out⟩ : Rdr)) (g := fun r' v => r' = Rdr.inner (⟨bin, 4, after, cmd, opt, sub, long, data, out⟩ : Rdr) 8 b ∧ v = .tup []) (a := 1) (b := 2) (c := 3) ((inner_ok (⟨bin, 4, after, cmd, opt, sub, long, data, out⟩ : Rdr) 8 b (by simp) ho hd).mono fun v M' ch ⟨h1, h2, h3⟩ _ => ⟨⟨_, ⟨rfl, h1⟩, h2⟩, h3⟩) (by decide) rfl (low_bySl rfl _) (low_bySl rfl _) (low_toSl rfl _) (.inr rfl) (.inr rfl) (.inr rfl) (inner_args 8 b) ?_
    rintro r' v ⟨rfl, rfl⟩
    refine ⟨rfl, ?_⟩
    ((conv => whnf); (repeat ((with_reducible refine Rest.mk ?_); (conv => whnf))))
    exact fin_rdr (r' := Rdr.inner (⟨bin, 4, after, cmd, opt, sub, long, data, out⟩ : Rdr) 8 b) (a := 4) (b := 5) (c := 6) (by decide) rfl (low_bySl rfl _) (low_bySl rfl _) (low_toSl rfl _) (.inr rfl) (.inr rfl) (.inr rfl) low_unit ⟨_, rfl⟩ ⟨rfl, rfl, rfl⟩
  · refine call_rdr (r := (⟨bin, 4, after, cmd, opt, sub, long, data, out⟩ : Rdr)) (g := fun r' v => r' = Rdr.inner (⟨bin, 4, after, cmd, opt, sub, long, data, out⟩ : Rdr) 8 b ∧ v = .tup []) (a := 1) (b := 2) (c := 3) ((inner_ok (⟨bin, 4, after, cmd, opt, sub, long, data, out⟩ : Rdr) 8 b (by simp) ho hd).mono fun v M' ch ⟨h1, h2, h3⟩ _ => ⟨⟨_, ⟨rfl, h1⟩, h2⟩, h3⟩) (by decide) rfl (low_bySl rfl _) (low_bySl rfl _) (low_toSl rfl _) (.inr rfl) (.inr rfl) (.inr rfl) (inner_args 8 b) ?_
    rintro r' v ⟨rfl, rfl⟩
    refine ⟨rfl, ?_⟩
    ((conv => whnf); (repeat ((with_reducible refine Rest.mk ?_); (conv => whnf))))
    exact fin_rdr (r' := Rdr.inner (⟨bin, 4, after, cmd, opt, sub, long, data, out⟩ : Rdr) 8 b) (a := 4) (b := 5) (c := 6) (by decide) rfl (low_bySl rfl _) (low_bySl rfl _) (low_toSl rfl _) (.inr rfl) (.inr rfl) (.inr rfl) low_unit ⟨_, rfl⟩ ⟨rfl, rfl, rfl⟩

theorem step5_ok (r : Rdr) (b : UInt8) (hst : r.st = 5) (ho : (r.out.getD []).length < 80000000) (hd : (r.data.getD []).length < 90000000) : T 30 [.ptr 0 0, .int .u8 b.toNat] [.obj (.rdr r)] (fun v M' ch => v = .tup [] ∧ M' = [.obj (.rdr (r.step b))] ∧ ch = [0]) := by
  obtain ⟨bin, st, after, cmd, opt, sub, long, data, out⟩ := r
  obtain rfl : st = 5 := hst
  refine CallT.by_body Tryd.func30 rfl Tryd.call30 rfl (Ent.open1 (by simp [unfW])) ?_
  ((conv => whnf); (repeat ((with_reducible refine Rest.mk ?_); (conv => whnf))))
  refine testK_true (b := drawOk _ _ _) (by kernel_rfl) ?_
  ((conv => whnf); (repeat ((with_reducible refine Rest.mk ?_); (conv => whnf))))
  refine (class_ok b _).mono ?_
  rintro v M' ch ⟨rfl, rfl, rfl⟩ _
  simp only [Rdr.step]
  rcases cls_cases b with h | h | h | h | h <;> rw [h] <;> (((conv => whnf); (repeat ((with_reducible refine Rest.mk ?_); (conv => whnf)))))
  · refine call_rdr (r := (⟨bin, 5, after, cmd, opt, sub, long, data, out⟩ : Rdr)) (g := fun r' v => r' = Rdr.inner (⟨bin, 5, after, cmd, opt, sub, long, data, out⟩ : Rdr) 8 b ∧ v = .tup []) (a := 1) (b := 2) (c := 3) ((inner_ok (⟨bin, 5, after, cmd, opt, sub, long, data, out⟩ : Rdr) 8 b (by simp) ho hd).mono fun v M' ch ⟨h1, h2, h3⟩ _ => ⟨⟨_, ⟨rfl, h1⟩, h2⟩, h3⟩) (by decide) rfl (low_bySl rfl _) (low_bySl rfl _) (low_toSl rfl _) (.inr rfl) (.inr rfl) (.inr rfl) (inner_args 8 b) ?_
    rintro r' v ⟨rfl, rfl⟩
    refine ⟨rfl, ?_⟩
    ((conv => whnf); (repeat ((with_reducible refine Rest.mk ?_); (conv => whnf))))
    exact fin_rdr (r' := Rdr.inner (⟨bin, 5, after, cmd, opt, sub, long, data, out⟩ : Rdr) 8 b) (a := 4) (b := 5) (c := 6) (by decide) rfl (low_bySl rfl _) (low_bySl rfl _) (low_toSl rfl _) (.inr rfl) (.inr rfl) (.inr rfl) low_unit ⟨_, rfl⟩ ⟨rfl, rfl, rfl⟩
  · refine call_rdr (r := (⟨bin, 5, after, cmd, opt, sub, long, data, out⟩ : Rdr)) (g := fun r' v => r' = Rdr.inner (⟨bin, 5, after, cmd, opt, sub, long, data, out⟩ : Rdr) 10 b ∧ v = .tup []) (a := 1) (b := 2) (c := 3) ((inner_ok (⟨bin, 5, after, cmd, opt, sub, long, data, out⟩ : Rdr) 10 b (by simp) ho hd).mono fun v M' ch ⟨h1, h2, h3⟩ _ => ⟨⟨_, ⟨rfl, h1⟩, h2⟩, h3⟩) (by decide) rfl (low_bySl rfl _) (low_bySl rfl _) (low_toSl rfl _) (.inr rfl) (.inr rfl) (.inr rfl) (inner_args 10 b) ?_
    rintro r' v ⟨rfl, rfl⟩
    refine ⟨rfl, ?_⟩
    ((conv => whnf); (repeat ((with_reducible refine Rest.mk ?_); (conv => whnf))))
    exact fin_rdr (r' := Rdr.inner (⟨bin, 5, after, cmd, opt, sub, long, data, out⟩ : Rdr) 10 b) (a := 4) (b := 5) (c := 6) (by decide) rfl (low_bySl rfl _) (low_bySl rfl _) (low_toSl rfl _) (.inr rfl) (.inr rfl) (.inr rfl) low_unit ⟨_, rfl⟩ ⟨rfl, rfl, rfl⟩
  · refine call_rdr (r := (⟨bin, 5, after, cmd, opt, sub, long, data, out⟩ : Rdr)) (g := fun r' v => r' = Rdr.inner (⟨bin, 5, after, cmd, opt, sub, long, data, out⟩ : Rdr) 11 b ∧ v = .tup []) (a := 1) (b := 2) (c := 3) ((inner_ok (⟨bin, 5, after, cmd, opt, sub, long, data, out⟩ : Rdr) 11 b (by simp) ho hd).mono fun v M' ch ⟨h1, h2, h3⟩ _ => ⟨⟨_, ⟨rfl, h1⟩, h2⟩, h3⟩) (by decide) rfl (low_bySl rfl _) (low_bySl rfl _) (low_toSl rfl _) (.inr rfl) (.inr rfl) (.inr rfl) (inner_args 11 b) ?_
    rintro r' v ⟨rfl, rfl⟩
    refine ⟨rfl, ?_⟩
    ((conv => whnf); (repeat ((with_reducible refine Rest.mk ?_); (conv => whnf))))
    exact fin_rdr (r' := Rdr.inner (⟨bin, 5, after, cmd, opt, sub, long, data, out⟩ : Rdr) 11 b) (a := 4) (b := 5) (c := 6) (by decide) rfl (low_bySl rfl _) (low_bySl rfl _) (low_toSl rfl _) (.inr rfl) (.inr rfl) (.inr rfl) low_unit ⟨_, rfl⟩ ⟨rfl, rfl, rfl⟩
  · refine call_rdr (r := (⟨bin, 5, after, cmd, opt, sub, long, data, out⟩ : Rdr)) (g := fun r' v => r' = Rdr.inner (⟨bin, 5, after, cmd, opt, sub, long, data, out⟩ : Rdr) 11 b ∧ v = .tup []) (a := 1) (b := 2) (c := 3) ((inner_ok (⟨bin, 5, after, cmd, opt, sub, long, data, out⟩ : Rdr) 11 b (by simp) ho hd).mono fun v M' ch ⟨h1, h2, h3⟩ _ => ⟨⟨_, ⟨rfl, h1⟩, h2⟩, h3⟩) (by decide) rfl (low_bySl rfl _) (low_bySl rfl _) (low_toSl rfl _) (.inr rfl) (.inr rfl) (.inr rfl) (inner_args 11 b) ?_
    rintro r' v ⟨rfl, rfl⟩
    refine ⟨rfl, ?_⟩
    ((conv => whnf); (repeat ((with_reducible refine Rest.mk ?_); (conv => whnf))))
    exact fin_rdr (r' := Rdr.inner (⟨bin, 5, after, cmd, opt, sub, long, data, out⟩ : Rdr) 11 b) (a := 4) (b := 5) (c := 6) (by decide) rfl (low_bySl rfl _) (low_bySl rfl _) (low_toSl rfl _) (.inr rfl) (.inr rfl) (.inr rfl) low_unit ⟨_, rfl⟩ ⟨rfl, rfl, rfl⟩
  · refine call_rdr (r := (⟨bin, 5, after, cmd, opt, sub, long, data, out⟩ : Rdr)) (g := fun r' v => r' = Rdr.inner (⟨bin, 5, after, cmd, opt, sub, long, data, out⟩ : Rdr) 11 b ∧ v = .tup []) (a := 1) (b := 2) (c := 3) ((inner_ok (⟨bin, 5, after, cmd, opt, sub, long, data, out⟩ : Rdr) 11 b (by simp) ho hd).mono fun v M' ch ⟨h1, h2, h3⟩ _ => ⟨⟨_, ⟨rfl, h1⟩, h2⟩, h3⟩) (by decide) rfl (low_bySl rfl _) (low_bySl rfl _) (low_toSl rfl _) (.inr rfl) (.inr rfl) (.inr rfl) (inner_args 11 b) ?_
    rintro r' v ⟨rfl, rfl⟩
    refine ⟨rfl, ?_⟩
    ((conv => whnf); (repeat ((with_reducible refine Rest.mk ?_); (conv => whnf))))
    exact fin_rdr (r' := Rdr.inner (⟨bin, 5, after, cmd, opt, sub, long, data, out⟩ : Rdr) 11 b) (a := 4) (b := 5) (c := 6) (by decide) rfl (low_bySl rfl _) (low_bySl rfl _) (low_toSl rfl _) (.inr rfl) (.inr rfl) (.inr rfl) low_unit ⟨_, rfl⟩ ⟨rfl, rfl, rfl⟩

theorem step_ok (r : Rdr) (b : UInt8) (hst : 0 ≤ r.st ∧ r.st ≤ 5) (ho : (r.out.getD []).length < 80000000) (hd : (r.data.getD []).length < 90000000) : T 30 [.ptr 0 0, .int .u8 b.toNat] [.obj (.rdr r)] (fun v M' ch => v = .tup [] ∧ M' = [.obj (.rdr (r.step b))] ∧ ch = [0]) := by
  have : r.st = 0 ∨ r.st = 1 ∨ r.st = 2 ∨ r.st = 3 ∨ r.st = 4 ∨ r.st = 5 := by omega
  rcases this with h | h | h | h | h | h
  · exact step0_ok r b h ho hd
  · have h1 := cmdStep_ok r b h ho hd
    have : r.step b = r.cmdStep b := by simp [Rdr.step, h]
    rw [this]; exact h1
  · exact step2_ok r b h ho hd
  · exact step3_ok r b h ho hd
  · exact step4_ok r b h ho hd
  · exact step5_ok r b h ho hd

end Go.Am
end
section
set_option linter.unusedSimpArgs false
namespace Go.Am
open Go Go.Proofs

set_option maxRecDepth 200000
attribute [local irreducible] CallT Ent
/-- 'fill' lays the table -/
theorem fill_ok (bin : Bool) (d m s : Int) : T 29 [.ptr 0 0] [.cells none (.bool bin :: .int .u32 d :: .int .i32 m :: .int .u32 s :: ((List.replicate 30 0).map (AV.int .i64) ++ Rdr.tail ⟨bin, 0, false, 0, 0, none, false, none, none⟩))]
    (fun v M' ch => v = .tup [] ∧ M' = [.cells none (.bool bin :: .int .u32 d :: .int .i32 m :: .int .u32 s :: (tabOf.map (AV.int .i64) ++ Rdr.tail ⟨bin, 0, false, 0, 0, none, false, none, none⟩))] ∧ ch = [0]) := by
  refine CallT.by_body Tryd.func29 rfl Tryd.call29 rfl (.refl _ _ _) ?_
  ((conv => whnf); (repeat ((with_reducible refine Rest.mk ?_); (conv => whnf))))
  refine .inr ⟨6, ?_⟩
  ((conv => whnf); (repeat ((with_reducible refine Rest.mk ?_); (conv => whnf))))
  exact fin.mk _ _ [0] (.refl _ _ _) ⟨rfl, rfl, rfl⟩ ⟨by simp, fun i hi hn => by simp at hi hn; omega⟩
end Go.Am
end
section
set_option linter.unusedSimpArgs false
namespace Go.Am
open Go Go.Proofs

variable {O : Type} {unf : O → List (AO O)}

theorem disable_ok (M : Mem O) : CallT unf Tryd.prog 66 [] M (fun v M' ch => v = .tup [] ∧ M' = M ∧ ch = []) := .mark0 Tryd.func66 (by kernel_rfl) (by kernel_rfl) (by kernel_rfl) .disable (by kernel_rfl) M
theorem enable_ok (M : Mem O) : CallT unf Tryd.prog 68 [] M (fun v M' ch => v = .tup [] ∧ M' = M ∧ ch = []) := .mark0 Tryd.func68 (by kernel_rfl) (by kernel_rfl) (by kernel_rfl) .enable (by kernel_rfl) M
theorem acquire_ok (M : Mem O) (id off : Nat) : CallT unf Tryd.prog 69 [.ptr id off] M (fun v M' ch => v = .tup [] ∧ M' = M ∧ ch = []) := .marked Tryd.func69 (by kernel_rfl) (by kernel_rfl) (by kernel_rfl) .acquire (by kernel_rfl) M id off
theorem releaseMerge_ok (M : Mem O) (id off : Nat) : CallT unf Tryd.prog 71 [.ptr id off] M (fun v M' ch => v = .tup [] ∧ M' = M ∧ ch = []) := .marked Tryd.func71 (by kernel_rfl) (by kernel_rfl) (by kernel_rfl) .releaseMerge (by kernel_rfl) M id off
section
variable {M : Mem O} {id off : Nat} {ek : Option Nat} {cs : List AV}

theorem load32_ok (hM : M[id]? = some (.cells ek cs)) {x : Int} (hc : cs[off]? = some (.int .u32 x)) : CallT unf Tryd.prog 49 [.ptr id off] M (fun v M' ch => v = .int .u32 x ∧ M' = M ∧ ch = []) :=
  .aload Tryd.func49 (by kernel_rfl) (by kernel_rfl) (by kernel_rfl) .u32 (by kernel_rfl) hM hc
theorem store32_ok (hM : M[id]? = some (.cells ek cs)) {x y : Int} (hc : cs[off]? = some (.int .u32 x)) : CallT unf Tryd.prog 60 [.ptr id off, .int .u32 y] M (fun v M' ch => v = .tup [] ∧ M' = M.set id (.cells ek (cs.set off (.int .u32 y))) ∧ ch = [id]) :=
  .astore Tryd.func60 (by kernel_rfl) (by kernel_rfl) (by kernel_rfl) (by kernel_rfl) hM hc
theorem cas32_ok (hM : M[id]? = some (.cells ek cs)) {x y : Int} (hc : cs[off]? = some (.int .i32 x)) : CallT unf Tryd.prog 67 [.ptr id off, .int .i32 x, .int .i32 y] M (fun v M' ch => v = .bool true ∧ M' = M.set id (.cells ek (cs.set off (.int .i32 y))) ∧ ch = [id]) :=
  .acas Tryd.func67 (by kernel_rfl) (by kernel_rfl) (by kernel_rfl) .i32 (by kernel_rfl) hM hc
theorem add32_ok (hM : M[id]? = some (.cells ek cs)) {x y s : Int} (hs : ∀ w, (Op.intArith .add .i32 x y).run Tryd.prog w = .ok (.int .i32 s) w) (hc : cs[off]? = some (.int .i32 x)) : CallT unf Tryd.prog 72 [.ptr id off, .int .i32 y] M (fun v M' ch => v = .int .i32 s ∧ M' = M.set id (.cells ek (cs.set off (.int .i32 s))) ∧ ch = [id]) :=
  .aadd Tryd.func72 (by kernel_rfl) (by kernel_rfl) (by kernel_rfl) .i32 (by kernel_rfl) hM hc hs
end

theorem get_set {M : Mem O} {id : Nat} {o o' : AO O} (h : M[id]? = some o) : (M.set id o')[id]? = some o' := by
  rw [List.getElem?_set_self (List.getElem?_eq_some_iff.1 h).1]
theorem set_set (M : Mem O) (id : Nat) (o o' : AO O) : (M.set id o).set id o' = M.set id o' := by simp
theorem cget_set {cs : List AV} {i : Nat} {v v' : AV} (h : cs[i]? = some v) : (cs.set i v')[i]? = some v' := by
  rw [List.getElem?_set_self (List.getElem?_eq_some_iff.1 h).1]

set_option maxRecDepth 100000
attribute [local irreducible] CallT Ent
theorem b32_ok (b : Bool) (M : Mem O) : CallT unf Tryd.prog 61 [.bool b] M (fun v M' ch => v = .int .u32 (if b then 1 else 0) ∧ M' = M ∧ ch = []) := by
  refine CallT.by_body Tryd.func61 rfl Tryd.call61 rfl (.refl _ _ _) ?_
  cases b <;> (((conv => whnf); (repeat ((with_reducible refine Rest.mk ?_); (conv => whnf))))) <;> exact fin.mk _ _ [] (.refl _ _ _) ⟨rfl, rfl, rfl⟩ (.refl _ _)

section
variable {M : Mem O} {id off : Nat} {ek : Option Nat} {cs : List AV}

/-- the lock, free -/
theorem ilock_ok (hM : M[id]? = some (.cells ek cs)) (hc : cs[off]? = some (.int .i32 0)) : CallT unf Tryd.prog 58 [.ptr id off] M (fun v M' ch => v = .tup [] ∧ M' = M.set id (.cells ek (cs.set off (.int .i32 1))) ∧ ch = [id]) := by
  refine CallT.by_body Tryd.func58 rfl Tryd.call58 rfl (.refl _ _ _) ?_
  ((conv => whnf); (repeat ((with_reducible refine Rest.mk ?_); (conv => whnf))))
  refine (disable_ok _).mono ?_
  rintro v M' ch ⟨rfl, rfl, rfl⟩ _
  ((conv => whnf); (repeat ((with_reducible refine Rest.mk ?_); (conv => whnf))))
  refine (cas32_ok (x := 0) (y := 1) hM hc).mono ?_
  rintro v M' ch ⟨rfl, rfl, rfl⟩ _
  ((conv => whnf); (repeat ((with_reducible refine Rest.mk ?_); (conv => whnf))))
  refine (enable_ok _).mono ?_
  rintro v M' ch ⟨rfl, rfl, rfl⟩ _
  ((conv => whnf); (repeat ((with_reducible refine Rest.mk ?_); (conv => whnf))))
  refine getK_iff.2 ⟨_, get_set hM, ?_⟩
  refine dropHead (v := .int .i32 1) (cget_set hc) ?_
  ((conv => whnf); (repeat ((with_reducible refine Rest.mk ?_); (conv => whnf))))
  refine (acquire_ok _ _ _).mono ?_
  rintro v M' ch ⟨rfl, rfl, rfl⟩ _
  ((conv => whnf); (repeat ((with_reducible refine Rest.mk ?_); (conv => whnf))))
  exact fin.mk _ _ [id] (.refl _ _ _) ⟨rfl, rfl, rfl⟩ (.set _ _ _)

theorem lock_ok (hM : M[id]? = some (.cells ek cs)) (hc : cs[off]? = some (.int .i32 0)) : CallT unf Tryd.prog 50 [.ptr id off] M (fun v M' ch => v = .tup [] ∧ M' = M.set id (.cells ek (cs.set off (.int .i32 1))) ∧ ch = [id]) := by
  refine CallT.by_body Tryd.func50 rfl Tryd.call50 rfl (.refl _ _ _) ?_
  ((conv => whnf); (repeat ((with_reducible refine Rest.mk ?_); (conv => whnf))))
  refine (ilock_ok hM hc).mono ?_
  rintro v M' ch ⟨rfl, rfl, rfl⟩ _
  ((conv => whnf); (repeat ((with_reducible refine Rest.mk ?_); (conv => whnf))))
  exact fin.mk _ _ [id] (.refl _ _ _) ⟨rfl, rfl, rfl⟩ (.set _ _ _)

/-- the lock, taken, is given back -/
theorem iunlock_ok (hM : M[id]? = some (.cells ek cs)) (hc : cs[off]? = some (.int .i32 1)) : CallT unf Tryd.prog 59 [.ptr id off] M (fun v M' ch => v = .tup [] ∧ M' = M.set id (.cells ek (cs.set off (.int .i32 0))) ∧ ch = [id]) := by
  refine CallT.by_body Tryd.func59 rfl Tryd.call59 rfl (.refl _ _ _) ?_
  ((conv => whnf); (repeat ((with_reducible refine Rest.mk ?_); (conv => whnf))))
  refine getK_iff.2 ⟨_, hM, ?_⟩
  refine dropHead hc ?_
  ((conv => whnf); (repeat ((with_reducible refine Rest.mk ?_); (conv => whnf))))
  refine getK_iff.2 ⟨_, hM, ?_⟩
  refine dropHead hc ?_
  ((conv => whnf); (repeat ((with_reducible refine Rest.mk ?_); (conv => whnf))))
  refine (releaseMerge_ok _ _ _).mono ?_
  rintro v M' ch ⟨rfl, rfl, rfl⟩ _
  ((conv => whnf); (repeat ((with_reducible refine Rest.mk ?_); (conv => whnf))))
  refine (disable_ok _).mono ?_
  rintro v M' ch ⟨rfl, rfl, rfl⟩ _
  ((conv => whnf); (repeat ((with_reducible refine Rest.mk ?_); (conv => whnf))))
  refine (add32_ok (x := 1) (y := -1) (s := 0) hM (fun w => by kernel_rfl) hc).mono ?_
  rintro v M' ch ⟨rfl, rfl, rfl⟩ _
  ((conv => whnf); (repeat ((with_reducible refine Rest.mk ?_); (conv => whnf))))
  refine (enable_ok _).mono ?_
  rintro v M' ch ⟨rfl, rfl, rfl⟩ _
  ((conv => whnf); (repeat ((with_reducible refine Rest.mk ?_); (conv => whnf))))
  exact fin.mk _ _ [id] (.refl _ _ _) ⟨rfl, rfl, rfl⟩ (.set _ _ _)

theorem bload_ok (hM : M[id]? = some (.cells ek cs)) {d : Int} (hc : cs[off]? = some (.int .u32 d)) : CallT unf Tryd.prog 37 [.ptr id off] M (fun v M' ch => v = .bool (!decide (d = 0)) ∧ M' = M ∧ ch = []) := by
  refine CallT.by_body Tryd.func37 rfl Tryd.call37 rfl (.refl _ _ _) ?_
  ((conv => whnf); (repeat ((with_reducible refine Rest.mk ?_); (conv => whnf))))
  refine (load32_ok hM (x := d) hc).mono ?_
  rintro v M' ch ⟨rfl, rfl, rfl⟩ _
  ((conv => whnf); (repeat ((with_reducible refine Rest.mk ?_); (conv => whnf))))
  exact fin.mk _ _ [] (.refl _ _ _) ⟨rfl, rfl, rfl⟩ (.refl _ _)

/-- what was done once is not done again -/
theorem do_done (hM : M[id]? = some (.cells ek cs)) {g : AV} (hc : cs[off]? = some (.int .u32 1)) : CallT unf Tryd.prog 28 [.ptr id off, g] M (fun v M' ch => v = .tup [] ∧ M' = M ∧ ch = []) := by
  refine CallT.by_body Tryd.func28 rfl Tryd.call28 rfl (.refl _ _ _) ?_
  ((conv => whnf); (repeat ((with_reducible refine Rest.mk ?_); (conv => whnf))))
  refine (bload_ok hM (d := 1) hc).mono ?_
  rintro v M' ch ⟨rfl, rfl, rfl⟩ _
  ((conv => whnf); (repeat ((with_reducible refine Rest.mk ?_); (conv => whnf))))
  exact fin.mk _ _ [] (.refl _ _ _) ⟨rfl, rfl, rfl⟩ (.refl _ _)
end

end Go.Am
end
section
set_option linter.unusedSimpArgs false
namespace Go.Am
open Go Go.Proofs

variable {O : Type} {unf : O → List (AO O)}
set_option maxRecDepth 100000
attribute [local irreducible] CallT Ent

theorem unlockD_ok {M : Mem O} {id off : Nat} {ek : Option Nat} {cs : List AV} (hM : M[id]? = some (.cells ek cs)) (hc : cs[off]? = some (.int .i32 1)) : CallTD unf Tryd.prog 51 [.ptr id off] M (fun v M' => v = .tup [] ∧ M' = M.set id (.cells ek (cs.set off (.int .i32 0)))) := by
  refine CallTD.by_body Tryd.func51 rfl ?_
  ((conv => whnf); (repeat ((with_reducible refine Rest.mk ?_); (conv => whnf))))
  refine (iunlock_ok hM hc).mono ?_
  rintro v M' ch ⟨rfl, rfl, rfl⟩ _
  ((conv => whnf); (repeat ((with_reducible refine Rest.mk ?_); (conv => whnf))))
  exact fin.mk _ _ [id] (.refl _ _ _) ⟨rfl, rfl⟩ (.set _ _ _)

theorem bstoreD_ok {M : Mem O} {id off : Nat} {ek : Option Nat} {cs : List AV} {x : Int} (hM : M[id]? = some (.cells ek cs)) (hc : cs[off]? = some (.int .u32 x)) : CallTD unf Tryd.prog 52 [.ptr id off, .bool true] M (fun v M' => v = .tup [] ∧ M' = M.set id (.cells ek (cs.set off (.int .u32 1)))) := by
  refine CallTD.by_body Tryd.func52 rfl ?_
  ((conv => whnf); (repeat ((with_reducible refine Rest.mk ?_); (conv => whnf))))
  refine testK_true (b := drawOk _ _ _) (by kernel_rfl) ?_
  ((conv => whnf); (repeat ((with_reducible refine Rest.mk ?_); (conv => whnf))))
  refine (b32_ok true _).mono ?_
  rintro v M' ch ⟨rfl, rfl, rfl⟩ _
  ((conv => whnf); (repeat ((with_reducible refine Rest.mk ?_); (conv => whnf))))
  refine (store32_ok (y := 1) hM hc).mono ?_
  rintro v M' ch ⟨rfl, rfl, rfl⟩ _
  ((conv => whnf); (repeat ((with_reducible refine Rest.mk ?_); (conv => whnf))))
  exact fin.mk _ _ [id] (.refl _ _ _) ⟨rfl, rfl⟩ (.set _ _ _)

theorem doSlow_ok {M : Mem O} {id off : Nat} {ek : Option Nat} {cs : List AV} {F : FuncId} {first : List AV} {RF : AV → Mem O → List Nat → Prop} {R : AV → Mem O → Prop} (hM : M[id]? = some (.cells ek cs))
    (h0 : cs[off]? = some (.int .u32 0)) (h1 : cs[off + 1]? = some (.int .i32 0)) (hF : CallT unf Tryd.prog F first (M.set id (.cells ek (cs.set (off + 1) (.int .i32 1)))) RF)
    (hk : ∀ v M1 ch, RF v M1 ch → ∃ ek1 cs1, M1[id]? = some (.cells ek1 cs1) ∧ cs1[off]? = some (.int .u32 0) ∧ cs1[off + 1]? = some (.int .i32 1) ∧ R (.tup []) (M1.set id (.cells ek1 ((cs1.set off (.int .u32 1)).set (off + 1) (.int .i32 0))))) :
    CallT unf Tryd.prog 38 [.ptr id off, .fn F first] M (fun v M' _ => R v M') := by
  have hid : id < M.length := (List.getElem?_eq_some_iff.1 hM).1
  refine CallT.of_defers Tryd.func38 rfl Tryd.call38 fun κ S w a hR hE hd => ?_
  have key : Next unf Tryd.prog M.length κ S w [] (Tryd.f38.body.getD .skip) (bodyPostD Tryd.prog Tryd.f38 (Back1 unf κ S w M (fun v M' _ => R v M'))) (frameOf Tryd.f38 [.ptr id off, .fn F first]) M := by
    refine Next.seq ?_
    ((conv => whnf); (repeat ((with_reducible refine Rest.mk ?_); (conv => whnf))))
    refine (lock_ok hM h1).mono ?_
    rintro v M' ch ⟨rfl, rfl, rfl⟩ _
    ((conv => whnf); (repeat ((with_reducible refine Rest.mk ?_); (conv => whnf))))
    refine Next.defer (pre := [_, _, _]) (oD := _) (l := [.ptr id (off + 1)]) rfl rfl rfl rfl ?_ (by simp [near, hid])
    ((conv => whnf); (repeat ((with_reducible refine Rest.mk ?_); (conv => whnf))))
    refine ⟨rfl, fun c51 h51 => ?_⟩
    refine Next.seq ?_
    ((conv => whnf); (repeat ((with_reducible refine Rest.mk ?_); (conv => whnf))))
    refine (bload_ok (off := off) (get_set hM) (d := 0) (by rw [List.getElem?_set_ne (by omega)]; exact h0)).mono ?_
    rintro v M' ch ⟨rfl, rfl, rfl⟩ _
    ((conv => whnf); (repeat ((with_reducible refine Rest.mk ?_); (conv => whnf))))
    refine Next.cond ?_
    ((conv => whnf); (repeat ((with_reducible refine Rest.mk ?_); (conv => whnf))))
    refine Next.defer (pre := [_, _, _]) (oD := _) (l := [.ptr id off, .bool true]) rfl rfl rfl rfl ?_ (by simp [near, hid])
    ((conv => whnf); (repeat ((with_reducible refine Rest.mk ?_); (conv => whnf))))
    refine ⟨rfl, fun c52 h52 => ?_⟩
    refine Next.last ?_
    ((conv => whnf); (repeat ((with_reducible refine Rest.mk ?_); (conv => whnf))))
    have hF' := hF
    rw [← List.append_nil first] at hF'
    refine hF'.mono ?_
    rintro v M1 ch hRF hch
    obtain ⟨ek1, cs1, g1, g2, g3, g4⟩ := hk v M1 ch hRF
    ((conv => whnf); (repeat ((with_reducible refine Rest.mk ?_); (conv => whnf))))
    refine .mk fun hn κ' S' w' a' hR' hE' hd' hP' => ?_
    show Leaves _ _ _ _ a'.defers _ _
    rw [hd']
    refine leave_one Tryd.call52 h52 (bstoreD_ok g1 g2) hR' hP' hn fun v2 M2 κ2 S2 w2 hv2 hR2 hP2 hn2 => ?_
    obtain ⟨rfl, rfl⟩ := hv2
    refine leave_one Tryd.call51 h51 (unlockD_ok (get_set g1) (by rw [List.getElem?_set_ne (by omega)]; exact g3)) hR2 hP2 hn2 fun v3 M3 κ3 S3 w3 hv3 hR3 hP3 hn3 => ?_
    obtain ⟨rfl, rfl⟩ := hv3
    rw [set_set] at hR3 hn3
    obtain ⟨v0, cv, rfl, hv0, hrun⟩ := results_sound (P := Tryd.prog) (w := w3) (fn := Tryd.f38) (R := fun v => v = .tup []) hE' rfl
    exact ⟨cv, hrun, cv, rfl, κ3, S3, .tup [], _, List.range M.length, g4, hR3, by cases hv0 with | tup a b => exact .tup a (fun i h => by simp at h), hP3, range_ok _ _ hn3⟩
  unfold Next at key
  exact key (Nat.le_refl _) κ S w a hR hE hd (.refl _ _ _ _)

/-- what is done once, for the first time -/
theorem do_first {M : Mem O} {id off : Nat} {ek : Option Nat} {cs : List AV} {F : FuncId} {first : List AV} {RF : AV → Mem O → List Nat → Prop} {R : AV → Mem O → Prop} (hM : M[id]? = some (.cells ek cs))
    (h0 : cs[off]? = some (.int .u32 0)) (h1 : cs[off + 1]? = some (.int .i32 0)) (hF : CallT unf Tryd.prog F first (M.set id (.cells ek (cs.set (off + 1) (.int .i32 1)))) RF)
    (hk : ∀ v M1 ch, RF v M1 ch → ∃ ek1 cs1, M1[id]? = some (.cells ek1 cs1) ∧ cs1[off]? = some (.int .u32 0) ∧ cs1[off + 1]? = some (.int .i32 1) ∧ R (.tup []) (M1.set id (.cells ek1 ((cs1.set off (.int .u32 1)).set (off + 1) (.int .i32 0))))) :
    CallT unf Tryd.prog 28 [.ptr id off, .fn F first] M (fun v M' _ => R v M') := by
  refine CallT.by_body Tryd.func28 rfl Tryd.call28 rfl (.refl _ _ _) ?_
  ((conv => whnf); (repeat ((with_reducible refine Rest.mk ?_); (conv => whnf))))
  refine (bload_ok hM (d := 0) h0).mono ?_
  rintro v M' ch ⟨rfl, rfl, rfl⟩ _
  ((conv => whnf); (repeat ((with_reducible refine Rest.mk ?_); (conv => whnf))))
  refine (doSlow_ok hM h0 h1 hF (R := fun v M' => v = .tup [] ∧ R v M') fun v M1 ch h => ?_).mono ?_
  · obtain ⟨ek1, cs1, g1, g2, g3, g4⟩ := hk v M1 ch h
    exact ⟨ek1, cs1, g1, g2, g3, rfl, g4⟩
  · rintro v M' ch ⟨rfl, h⟩ hch
    ((conv => whnf); (repeat ((with_reducible refine Rest.mk ?_); (conv => whnf))))
    exact fin.mk _ _ ch (.refl _ _ _) h hch

end Go.Am
end
section
set_option linter.unusedSimpArgs false
namespace Go.Am
open Go Go.Proofs

def Rdr.feed (r : Rdr) (s : List UInt8) : Rdr := s.foldl Rdr.step r
def Rdr.new (bin : Bool) : Rdr := ⟨bin, 0, false, 0, 0, none, false, none, none⟩
def Ob.start : Ob → Rdr
  | .fresh bin => .new bin
  | .rdr r => r
  | .ref _ => .new false

/-- so many bytes were read at the most -/
def Rdr.fits (n : Nat) (r : Rdr) : Prop := (0 ≤ r.st ∧ r.st ≤ 5) ∧ (r.out.getD []).length ≤ 3 * n ∧ (r.data.getD []).length ≤ n

theorem Rdr.fits.new (bin : Bool) : (Rdr.new bin).fits 0 := by simp [Rdr.fits, Rdr.new]
theorem Rdr.fits.byte {n : Nat} {r : Rdr} (b : UInt8) (h : r.fits n) : (r.byte b).fits (n + 1) := by
  obtain ⟨h1, h2, h3⟩ := h
  unfold Rdr.byte; split <;> (refine ⟨h1, by simp; omega, by simp; omega⟩)
theorem Rdr.flush_data (r : Rdr) : (r.flush.data.getD []).length ≤ (r.data.getD []).length := by
  unfold Rdr.flush; split <;> simp
theorem Rdr.flush_st (r : Rdr) : r.flush.st = r.st := by
  unfold Rdr.flush; split <;> rfl
theorem Rdr.fits.tell {n : Nat} {r : Rdr} (t : Tok) (h : r.fits n) : (r.tell t).fits (n + 1) := by
  obtain ⟨h1, h2, h3⟩ := h
  have g1 := flush_out r
  have g2 := r.flush_data
  refine ⟨by simp [Rdr.tell, Rdr.flush_st]; exact h1, by simp [Rdr.tell]; omega, by simp [Rdr.tell]; omega⟩
theorem Rdr.fits.st {n : Nat} {r r' : Rdr} (h : r.fits n) (h1 : 0 ≤ r'.st ∧ r'.st ≤ 5) (h2 : r'.out = r.out) (h3 : r'.data = r.data) : r'.fits n := by
  obtain ⟨_, g2, g3⟩ := h
  exact ⟨h1, by rw [h2]; exact g2, by rw [h3]; exact g3⟩
theorem Rdr.fits.stp {n : Nat} {r r' : Rdr} (h : r.fits n) (h1 : 0 ≤ r'.st ∧ r'.st ≤ 5) (h2 : r'.out = r.out) (h3 : r'.data = r.data) : r'.fits (n + 1) := by
  obtain ⟨_, g2, g3⟩ := h
  exact ⟨h1, by rw [h2]; omega, by rw [h3]; omega⟩
theorem Rdr.fits.mono {n m : Nat} {r : Rdr} (h : r.fits n) (hm : n ≤ m) : r.fits m := by
  obtain ⟨h1, h2, h3⟩ := h
  exact ⟨h1, by omega, by omega⟩
theorem Rdr.fits.cmdStep {n : Nat} {r : Rdr} (b : UInt8) (h : r.fits n) : (r.cmdStep b).fits (n + 1) := by
  unfold Rdr.cmdStep
  split
  · exact .byte b (h.st (by simp) rfl rfl)
  split
  · exact h.stp (by simp) rfl rfl
  split
  · exact h.stp (by simp) rfl rfl
  · exact .tell _ (h.st (by simp) rfl rfl)
theorem Rdr.fits.inner {n : Nat} {r : Rdr} (act : Int) (b : UInt8) (h : r.fits n) : (r.inner act b).fits (n + 1) := by
  unfold Rdr.inner
  split
  · exact h.stp (by simp) rfl rfl
  split
  · unfold Rdr.keep
    split <;> exact h.stp (by simp) rfl rfl
  split
  · exact h.stp (by simp) rfl rfl
  split
  · unfold Rdr.endSub
    split
    · exact h.stp (by simp) rfl rfl
    · have := Rdr.fits.tell ⟨3, 0, r.opt, r.sub.getD []⟩ (h.st (r' := { r with st := 0 }) (by simp) rfl rfl)
      exact Rdr.fits.st this this.1 rfl rfl
  · exact .cmdStep b (h.st (by simp) rfl rfl)
theorem Rdr.fits.step {n : Nat} {r : Rdr} (b : UInt8) (h : r.fits n) : (r.step b).fits (n + 1) := by
  unfold Rdr.step
  split
  · split
    · exact h.stp (by simp) rfl rfl
    · exact .byte b (h.st (by simp) rfl rfl)
  split
  · exact .cmdStep b h
  split
  · exact .tell _ (h.st (by simp) rfl rfl)
  split
  · exact .inner _ b h
  split
  · split <;> exact .inner _ b h
  · split
    · exact .inner _ b h
    split <;> exact .inner _ b h
theorem Rdr.fits.feed {n : Nat} {r : Rdr} (s : List UInt8) (h : r.fits n) : (r.feed s).fits (n + s.length) := by
  induction s generalizing r n with
  | nil => exact h
  | cons b s ih =>
    have := ih (h.step b)
    rw [show n + (b :: s).length = n + 1 + s.length by simp; omega]
    exact this


end Go.Am
end
