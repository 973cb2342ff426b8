/-
  Part 9 of a proof: an abstract machine for the program, and what pieces of the program compute (WLaw3, Law). No condition of its own.
-/
import Derived.Test.YtpclplbogmpojaaDoorB8
import Derived.Carry
import Derived.Deep.Strs
import Derived.ChangeSlices
import Derived.OpenShut
import Derived.ProofKit
import Derived.ChangeSame
set_option linter.unusedSimpArgs false
set_option linter.unusedVariables false
section
set_option linter.unusedSimpArgs false
namespace Go.Am
open Go Go.Proofs

set_option maxRecDepth 100000
attribute [local irreducible] CallT Ent pushA

theorem flat_lit (xs : List (List UInt8)) (M : Mem Ob) (id : Nat) (h : M[id]? = some (.cells none (xs.map .str))) : Lend M (.vs (xs.map .str) xs.length) (.sl id 0 xs.length xs.length) := by
  refine .sl (z := 1) h (by simp) ?_ (fun i hi => ?_)
  · intro v hv; simp at hv; obtain ⟨a, _, rfl⟩ := hv; exact .str _
  · simp at hi; simp [hi]

/-- wire.Data of a literal -/
theorem data_lit (bin : Bool) (xs : List (List UInt8)) (M : Mem Ob) (id : Nat) (hx : xs.length ≤ 1000000) (hl : xs.flatten.length ≤ 1000000) (h : M[id]? = some (.cells none (xs.map .str))) :
    T 7 [.bool bin, .sl id 0 xs.length xs.length] M (fun v M' ch => v = .str (wireData bin xs.flatten) ∧ M' = M ∧ ch = []) :=
  ((data0_ok bin xs hx hl).mono fun v M' ch h _ => ⟨h.1, h.2.1⟩).lend (by rintro v rfl; exact .flat (.str _)) (.cons (.flat (.bool _)) (.cons (flat_lit xs M id h) .nil))

theorem wplain_any (bin : Bool) (s : List UInt8) (hs : s.length ≤ 1000000) (M : Mem Ob) : T 9 [.bool bin, .str s] M (fun v M' ch => v = .str (refPlain bin s) ∧ M' = M ∧ ch = []) :=
  (wplain_ok bin s hs).lend (by rintro v rfl; exact .flat (.str _)) (.cons (.flat (.bool _)) (.cons (.flat (.str _)) .nil))
theorem rplain_any (bin : Bool) (s : List UInt8) (hs : s.length ≤ 1000000) (M : Mem Ob) : T 8 [.bool bin, .str s] M (fun v M' ch => v = .str (refPlain bin s) ∧ M' = M ∧ ch = []) :=
  (rplain_ok bin s hs).lend (by rintro v rfl; exact .flat (.str _)) (.cons (.flat (.bool _)) (.cons (.flat (.str _)) .nil))
theorem data_nil (bin : Bool) (M : Mem Ob) : T 7 [.bool bin, .nilS] M (fun v M' ch => v = .str (wireData bin []) ∧ M' = M ∧ ch = []) :=
  ((data0_ok bin [] (by simp) (by simp)).mono fun v M' ch h _ => ⟨h.1, h.2.1⟩).lend (by rintro v rfl; exact .flat (.str _)) (.cons (.flat (.bool _)) (.cons .nil .nil))

theorem flat_bd (xs : List (List UInt8)) (m : Nat) (h : ∀ x, x ∈ xs → x.length ≤ m) (hn : xs.length ≤ 20) : xs.flatten.length ≤ m * 20 := by
  have key : ∀ ys : List (List UInt8), (∀ x, x ∈ ys → x.length ≤ m) → ys.flatten.length ≤ m * ys.length := by
    intro ys
    induction ys with
    | nil => intro _; simp
    | cons y ys ih =>
      intro h
      have := ih fun x hx => h x (by simp [hx])
      have := h y (by simp)
      rw [List.flatten_cons, List.length_append, List.length_cons, Nat.mul_add]; omega
  exact Nat.le_trans (key xs h) (Nat.mul_le_mul_left _ hn)

theorem alive_ok : T 6 [] [] (fun v M' _ => v = .bool true ∧ M' = []) := by
  refine CallT.by_body Tryd.func6 rfl Tryd.call6 rfl (.refl _ _ _) ?_
  ((conv => whnf); (repeat ((with_reducible refine Rest.mk ?_); (conv => whnf))))
  refine (data_lit false [[97, 13], [98, 13, 10]] _ 0 (by simp) (by simp) rfl).mono ?_
  rintro v M' ch ⟨rfl, rfl, rfl⟩ _
  ((conv => whnf); (repeat ((with_reducible refine Rest.mk ?_); (conv => whnf))))
  refine (wplain_any false [97, 13, 0] (by simp) _).mono ?_
  rintro v M' ch ⟨rfl, rfl, rfl⟩ _
  ((conv => whnf); (repeat ((with_reducible refine Rest.mk ?_); (conv => whnf))))
  exact fin.flat (v' := .bool true) (.bool _) ⟨rfl, rfl⟩

theorem parts_ok (bin : Bool) (xs : List (List UInt8)) : T 3 [.bool bin, .vs (xs.map .str) xs.length] [] (fun v M' _ => v = .bool true ∧ M' = []) := by
  refine CallT.by_body Tryd.func3 rfl Tryd.call3 rfl (.refl _ _ _) ?_
  have htrue : ∀ (M : Mem Ob), fin unfW 0 [] (fun v M' _ => v = .bool true ∧ M' = []) (.bool true) M := fun M => fin.flat (.bool _) ⟨rfl, rfl⟩
  ((conv => whnf); (repeat ((with_reducible refine Rest.mk ?_); (conv => whnf))))
  refine testK_split (fun h => ?_) (fun h => ?_) <;> ((conv => whnf); (repeat ((with_reducible refine Rest.mk ?_); (conv => whnf))))
  · refine alive_ok.mono ?_
    rintro v M' ch ⟨rfl, rfl⟩ _
    ((conv => whnf); (repeat ((with_reducible refine Rest.mk ?_); (conv => whnf))))
    exact htrue _
  have hn : xs.length ≤ 20 := by simp at h; omega
  refine alive_ok.mono ?_
  rintro v M' ch ⟨rfl, rfl⟩ _
  ((conv => whnf); (repeat ((with_reducible refine Rest.mk ?_); (conv => whnf))))
  refine .inl (loopG (α := Nat) (inv := fun k => k ≤ xs.length ∧ ∀ x, x ∈ xs.take k → x.length ≤ 100)
    (st := fun k => [.bool bin, .vs (xs.map .str) xs.length, .und, .und, .bool false, .str ((xs.take k).map (wireData bin)).flatten, .str (xs.take k).flatten, .int .i64 (k : Nat), .und, .und, .und, .und, .und, .und, .und, .und, .und, .und, .und, .und, .und, .und, .und, .und, .und, .und, .und, .und, .und, .und, .und, .und, .und, .und, .und, .und, .und, .und, .und, .und, .und, .und, .und, .und, .und, .und, .und, .und, .und, .und, .und, .und, .und, .und, .und, .und, .und, .und, .und, .und, .und, .und, .und, .und, .und, .und, .und, .und, .und, .und, .und, .und, .und, .und, .und, .und, .und, .und, .und, .und, .und])
    (mm := fun k => []) (μ := fun k => xs.length - k) 0 (by simp) ?_ ?_)
  · exact .env (by (repeat' (first | exact LowL.nil _ | refine LowL.cons (.und _) ?_ | refine LowL.cons (.int _ _) ?_ | refine LowL.cons (.str _) ?_ | refine LowL.cons (.bool _) ?_ | refine LowL.cons (.ptr rfl) ?_ | refine LowL.cons (.sl rfl) ?_ | refine LowL.cons (low_vsS _ _) ?_ | refine LowL.cons (low_vsI _ _) ?_ | refine LowL.cons (low_tx rfl _) ?_ | refine LowL.cons .nilS ?_ | refine LowL.cons .nilP ?_ | refine LowL.cons (low_acc rfl _) ?_ | refine LowL.cons (low_toSl rfl _) ?_ | refine LowL.cons (low_bySl rfl _) ?_ | refine LowL.cons (low_toSlE rfl (by simp)) ?_)))
  rintro k ⟨hk, hx⟩
  dsimp only
  ((conv => whnf); (repeat ((with_reducible refine Rest.mk ?_); (conv => whnf))))
  refine testK_split (fun h1 => ?_) (fun h1 => ?_) <;> ((conv => whnf); (repeat ((with_reducible refine Rest.mk ?_); (conv => whnf))))
  · have hkn : k < xs.length := by simp at h1; omega
    refine testK_true (by simp; omega) ?_
    ((conv => whnf); (repeat ((with_reducible refine Rest.mk ?_); (conv => whnf))))
    refine dropAt (v := .str xs[k]) (by simp [sz9, hkn]) ?_
    ((conv => whnf); (repeat ((with_reducible refine Rest.mk ?_); (conv => whnf))))
    refine testK_split (fun h2 => ?_) (fun h2 => ?_) <;> ((conv => whnf); (repeat ((with_reducible refine Rest.mk ?_); (conv => whnf))))
    · exact htrue _
    have hxk : xs[k].length ≤ 100 := by simp at h2; omega
    refine testK_true (by simp; omega) ?_
    ((conv => whnf); (repeat ((with_reducible refine Rest.mk ?_); (conv => whnf))))
    refine dropAt (v := .str xs[k]) (by simp [sz9, hkn]) ?_
    ((conv => whnf); (repeat ((with_reducible refine Rest.mk ?_); (conv => whnf))))
    refine (data_lit bin [xs[k]] _ 0 (by simp) (by simp; omega) rfl).mono ?_
    rintro v M' ch ⟨rfl, rfl, rfl⟩ _
    rw [show [xs[k]].flatten = xs[k] by simp]
    have hwl := wireData_len bin xs[k]
    ((conv => whnf); (repeat ((with_reducible refine Rest.mk ?_); (conv => whnf))))
    refine testK_true (by simp; omega) ?_
    ((conv => whnf); (repeat ((with_reducible refine Rest.mk ?_); (conv => whnf))))
    refine dropAt (v := .str xs[k]) (by simp [sz9, hkn]) ?_
    ((conv => whnf); (repeat ((with_reducible refine Rest.mk ?_); (conv => whnf))))
    refine testK_false (by simp; omega) ?_
    ((conv => whnf); (repeat ((with_reducible refine Rest.mk ?_); (conv => whnf))))
    refine testK_true (by simp; omega) ?_
    ((conv => whnf); (repeat ((with_reducible refine Rest.mk ?_); (conv => whnf))))
    refine dropAt (v := .str xs[k]) (by simp [sz9, hkn]) ?_
    ((conv => whnf); (repeat ((with_reducible refine Rest.mk ?_); (conv => whnf))))
    refine testK_false (by simp; rw [wrap_in (by omega) (by omega)]; omega) ?_
    ((conv => whnf); (repeat ((with_reducible refine Rest.mk ?_); (conv => whnf))))
    refine testK_true (b := drawOk _ _ _) (by kernel_rfl) ?_
    ((conv => whnf); (repeat ((with_reducible refine Rest.mk ?_); (conv => whnf))))
    have htl : (xs.take k).length ≤ 20 := by simp; omega
    have hfl : (xs.take k).flatten.length ≤ 2000 := flat_bd (xs.take k) 100 hx htl
    have hsl : ((xs.take k).map (wireData bin)).flatten.length ≤ 4000 := flat_bd ((xs.take k).map (wireData bin)) 200 (by intro x hx'; simp only [List.mem_map] at hx'; obtain ⟨y, hy, rfl⟩ := hx'; have := wireData_len bin y; have := hx y hy; omega) (by simpa using htl)
    refine testK_true (by simp only [decide_eq_true_eq]; omega) ?_
    ((conv => whnf); (repeat ((with_reducible refine Rest.mk ?_); (conv => whnf))))
    refine testK_true (by simp; omega) ?_
    ((conv => whnf); (repeat ((with_reducible refine Rest.mk ?_); (conv => whnf))))
    refine dropAt (v := .str xs[k]) (by simp [sz9, hkn]) ?_
    ((conv => whnf); (repeat ((with_reducible refine Rest.mk ?_); (conv => whnf))))
    refine testK_true (by simp only [decide_eq_true_eq]; omega) ?_
    ((conv => whnf); (repeat ((with_reducible refine Rest.mk ?_); (conv => whnf))))
    rw [wrap_succ (by omega)]
    have e1 : ((xs.take k).map (wireData bin)).flatten ++ wireData bin xs[k] = ((xs.take (k + 1)).map (wireData bin)).flatten := by
      rw [List.take_succ_eq_append_getElem hkn, List.map_append, List.flatten_append]; simp only [List.map_cons, List.map_nil, List.flatten_cons, List.flatten_nil, List.append_nil]
    rw [e1, ← flatten_take_succ hkn]
    refine ⟨k + 1, _, _, .low (τ := []) (Parts.low (by decide) .nil) (by (repeat' (first | exact LowL.nil _ | refine LowL.cons (.und _) ?_ | refine LowL.cons (.int _ _) ?_ | refine LowL.cons (.str _) ?_ | refine LowL.cons (.bool _) ?_ | refine LowL.cons (.ptr rfl) ?_ | refine LowL.cons (.sl rfl) ?_ | refine LowL.cons (low_vsS _ _) ?_ | refine LowL.cons (low_vsI _ _) ?_ | refine LowL.cons (low_tx rfl _) ?_ | refine LowL.cons .nilS ?_ | refine LowL.cons .nilP ?_ | refine LowL.cons (low_acc rfl _) ?_ | refine LowL.cons (low_toSl rfl _) ?_ | refine LowL.cons (low_bySl rfl _) ?_ | refine LowL.cons (low_toSlE rfl (by simp)) ?_))) (Nat.zero_le _) (fun i hi => by simp at hi), ⟨⟨hkn, fun x hx' => ?_⟩, rfl, rfl⟩, by omega⟩
    rw [List.take_succ_eq_append_getElem hkn] at hx'
    rcases List.mem_append.1 hx' with hx' | hx'
    · exact hx x hx'
    · simp at hx'; rw [hx']; exact hxk
  · have : k = xs.length := by simp at h1; omega
    subst this
    rw [List.take_length] at *
    have hfl : xs.flatten.length ≤ 2000 := flat_bd xs 100 hx hn
    have hsl : (xs.map (wireData bin)).flatten.length ≤ 4000 := flat_bd (xs.map (wireData bin)) 200 (by intro x hx'; simp at hx'; obtain ⟨y, hy, rfl⟩ := hx'; have := wireData_len bin y; have := hx y hy; omega) (by simpa using hn)
    refine (rplain_any bin _ (by omega) _).mono ?_
    rintro v M' ch ⟨rfl, rfl, rfl⟩ _
    rw [parts_plain]
    ((conv => whnf); (repeat ((with_reducible refine Rest.mk ?_); (conv => whnf))))
    refine testK_true (by simp) ?_
    ((conv => whnf); (repeat ((with_reducible refine Rest.mk ?_); (conv => whnf))))
    refine (wplain_any bin _ (by omega) _).mono ?_
    rintro v M' ch ⟨rfl, rfl, rfl⟩ _
    rw [parts_plain]
    ((conv => whnf); (repeat ((with_reducible refine Rest.mk ?_); (conv => whnf))))
    refine testK_true (by simp) ?_
    ((conv => whnf); (repeat ((with_reducible refine Rest.mk ?_); (conv => whnf))))
    refine (data_nil bin _).mono ?_
    rintro v M' ch ⟨rfl, rfl, rfl⟩ _
    rw [show wireData bin [] = [] by cases bin <;> rfl]
    ((conv => whnf); (repeat ((with_reducible refine Rest.mk ?_); (conv => whnf))))
    exact htrue _
end Go.Am
end
section
namespace Go.Am
open Go Go.Proofs Go.RowKit Go.ChangeShapes Go.WideShapes Go.ChangeAt

section
variable {O : Type} {unf : O → List (AO O)} {P : Program}

/-- in a world that is shaped the library's variables hold what they may -/
theorem globs_ok {W : World} (hsh : W.ShapedOpen Tryd.prog) : ∀ b p, (b, p) ∈ globs → ∃ A, (allImm W).imm b = some A ∧ p A := by
  intro b p hb
  have e : globs = [(0, fun A => ∃ m, A[0]? = some (.int .i64 m))] := rfl
  rw [e] at hb
  simp only [List.mem_singleton, Prod.mk.injEq] at hb
  obtain ⟨rfl, rfl⟩ := hb
  obtain ⟨m, hm⟩ := Tryd.laysM155.s1_3 W hsh
  have hm : W.cell? ⟨0, 0, none⟩ = some (.int .i64 m) := hm
  unfold World.cell? at hm
  split at hm
  · rename_i c t fz hc
    simp at hm
    exact ⟨c, allImm_of hc, m, by simpa using hm⟩
  · cases hm

theorem start_rep {W : World} (hg : ∀ b p, (b, p) ∈ globs → ∃ A, (allImm W).imm b = some A ∧ p A) : Rep unf (allImm W) [] W (fun _ => False) where
  dom _ _ := rfl
  own := ⟨fun _ _ => False, fun i h => by simp at h, fun _ _ _ _ h => h.elim, fun _ _ h => h⟩
  lt _ h := h.elim
  imm b A h := by
    refine ⟨id, ?_⟩
    simp only [allImm] at h
    split at h
    · rename_i A' t fz hA
      cases h; exact ⟨t, fz, hA, trivial⟩
    · cases h
  glob := hg

/-- the law answers true, and leaves all that was as it was -/
theorem law_calls {f : FuncId} {args : List AV} {cargs : Array Value} {W : World} (hcall : ∀ (args : Array Value) (w : World), (callFunc f args).run P w = .ok (.enter f args) w)
    (hg : ∀ b p, (b, p) ∈ globs → ∃ A, (allImm W).imm b = some A ∧ p A) (hv : VRelL (allImm W) args cargs) (spec : CallT unf P f args [] fun v M' _ => v = .bool true ∧ M' = []) :
    Calls P f cargs W fun e W' => e = .returned (.bool true) ∧ Below W.heap.size W W' := by
  rcases spec (allImm W) (fun _ => False) W cargs (start_rep hg) hv with ⟨cv, w', hrun, _⟩ | ⟨_, hc⟩
  · rw [hcall] at hrun; cases hrun
  · refine hc.mono ?_
    rintro e w' ⟨cv, rfl, κ', S', v, M', ch, ⟨rfl, rfl⟩, hR', hv', hP, _⟩
    obtain rfl := hv'.bool_inv
    exact ⟨rfl, ⟨hP.rest.2.1, hP.rest.1, hP.rest.2.2, hP.grow, fun k hk => hP.same k hk id⟩⟩

theorem cell_block {w : World} {b o : Nat} {v : Value} (h : w.cell? ⟨b, o, none⟩ = some v) : ∃ A t fz, w.heap[b]? = some (.cells A t fz) ∧ A[o]? = some v := by
  unfold World.cell? at h
  split at h
  · rename_i c t fz hc
    exact ⟨c, t, fz, hc, by simpa using h⟩
  · cases h
theorem cell_spot {w : World} {a : Addr} {v : Value} (h : w.cell? a = some v) : a = ⟨a.block, a.off, none⟩ := by
  obtain ⟨b, o, s⟩ := a
  cases s with
  | none => rfl
  | some x =>
    unfold World.cell? at h
    split at h
    · simp at h
    · cases h

/-- a slice of one-cell values, as a row that nobody writes -/
theorem rel_row {W : World} {a : Addr} {len cap : Nat} {l : List AV} {f : Nat → Value} (hl : l.length = len) (hc : len ≤ cap) (hcell : ∀ i, i < len → W.cell? (a.add i) = some (f i) ∧ one (f i)) (hv : ∀ i (h : i < l.length), VRel (allImm W) l[i] (f i)) : VRel (allImm W) (.vs l len) (.slice (some a) len cap) := by
  by_cases h0 : len = 0
  · subst h0
    obtain rfl : l = [] := List.length_eq_zero_iff.1 hl
    exact .vs0
  · have h1 := (hcell 0 (by omega)).1
    have e0 : a.add 0 = a := by simp [Addr.add]
    rw [e0] at h1
    have ha := cell_spot h1
    rw [ha] at h1 ⊢
    obtain ⟨A, t, fz, hA, _⟩ := cell_block h1
    refine .vs f hc (allImm_of hA) (fun i hi => ?_) hv
    obtain ⟨h2, h3⟩ := hcell i (by omega)
    rw [ha, addr_add] at h2
    rw [cell_of hA] at h2
    exact ⟨h2, h3⟩

variable {H : Type} {enc : TypeId × Value → H}

theorem rel_strs {W : World} {t e : TypeId} {v : Value} {d : DataW H} {ps : List MemPlace} {base : Nat} {spare : Nat → Bool} {held : Bool} (ht : P.underlying t = some (.slice e)) (he : P.underlying e = some .string) (hc : P.cellsOf e = 1) (hcs : ∀ q len cap, v = .slice q len cap → v.cells = #[v])
    (hsl : ∃ q len cap, v = .slice q len cap) (h : DataW.Trod enc P W base spare held t v d ps) : ∃ xs : List (List UInt8), VRel (allImm W) (.vs (xs.map .str) xs.length) v := by
  obtain ⟨fuel, hf⟩ := h
  obtain ⟨q, len, cap, rfl⟩ := hsl
  have hf : DataW.trod enc P W base spare held fuel t [.slice q len cap] = some (d, ps) := by simpa [Value.cells] using hf
  rcases Go.Deep.open_strs ht he hc hf with ⟨h1, _⟩ | ⟨a, len', cap', m, Sx, h1, _, h2, _, hm, _, hcell⟩
  · simp only [List.cons.injEq, and_true] at h1
    rw [h1]
    exact ⟨[], .vs0⟩
  · simp only [List.cons.injEq, and_true] at h1
    rw [h1]
    have hlm : len' ≤ m := by rw [hm]; split <;> omega
    refine ⟨(List.range len').map fun i => (Sx i).data.toList, ?_⟩
    have hn : ((List.range len').map fun i => (Sx i).data.toList).length = len' := by simp
    rw [hn]
    refine rel_row (f := fun i => .string (Sx i)) (by simp) h2 (fun i hi => ⟨(hcell i (by omega)).1, rfl⟩) fun i hi => ?_
    simp only [List.length_map, List.length_range] at hi
    simp only [List.getElem_map, List.getElem_range]
    exact .str _

theorem args_stay {ts : List TypeId} {vs : List Value} {ds : List (DataW H)} {ps : List MemPlace} {W W' : World} (hl : laidOutB P = true) (hr : ∀ t, t ∈ ts → P.readableRec t = true ∧ t < P.types.size) (h : DataW.TrodAll enc P W 0 (fun _ => true) true ts vs ds ps)
    (hb : Below W.heap.size W W') (hlt : ∀ x, x ∈ ps → x.block < W.heap.size) (sp : Nat → Bool) (hs : ∀ p, p ∈ ps → sp p.block = true) : DataW.TrodAll enc P W' 0 sp true ts vs ds ps := by
  induction ts generalizing vs ds ps with
  | nil =>
    obtain ⟨rfl, rfl, rfl⟩ := trodAll_nil h
    exact h
  | cons t ts ih =>
    obtain ⟨v, vs1, d, ds1, a, b, rfl, rfl, rfl, h1, h2⟩ := trodAll_cons h
    exact ⟨a, b, WideElems.Trod_stays hl (hr t (by simp)).1 (hr t (by simp)).2 h1 (fun x hx => hb.same (hlt x (by simp [hx]))) (fun p hp => hs p (by simp [hp])),
      ih (fun t ht => hr t (by simp [ht])) h2 (fun x hx => hlt x (by simp [hx])) (fun p hp => hs p (by simp [hp])), rfl⟩

/-- what a law's row asks behind the call -/
theorem law_post {fn : Func} {s : ChangeSpec} {W W' : World} {args : Array Value} {ds gs : List (DataW H)} {before : List MemPlace} {bt : TypeId} (hl : laidOutB P = true) (hr : ∀ t, t ∈ fn.params.toList → P.readableRec t = true ∧ t < P.types.size) (hvars : s.vars = [])
    (hW : DataW.Whole enc P fn.params.toList s.vars false W args.toList ds gs before) (hrt : fn.resultTypes = #[bt]) (hbt : P.underlying bt = some .bool)
    (hs : s.fn H (ds ++ gs) = { results := [.lit (.bool true)], args := ds }) (hb : Below W.heap.size W W') : s.post enc P fn false true false false W args (.bool true) W' := by
  have hlt := hW.lt
  have hW' := hW
  obtain ⟨p, q, hA, hV, rfl, hfz, hnd⟩ := hW
  rw [hvars] at hV
  obtain ⟨rfl, rfl⟩ := trodVars_none hV
  refine ⟨ds, [], p ++ [], [], p, [], hW', ?_, ?_, ?_, ?_, fun h => by cases h⟩
  · rw [hs, hrt]
    exact trodAll_cons_mk (shut_bool hbt _) trodAll_mk0
  · rw [hs]
    exact args_stay hl hr hA hb (fun x hx => hlt x (by simp [hx])) _ (fun x hx => by simpa using hlt x (by simp [hx]))
  · rw [hs, hvars]; exact hV
  · exact hb.frame _
end
end Go.Am
end
