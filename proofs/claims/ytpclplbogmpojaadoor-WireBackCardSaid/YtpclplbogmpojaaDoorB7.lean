/-
  Part 7 of a proof: an abstract machine for the program, and what pieces of the program compute (WFeed, WPlain, Shelf, Strs, WData). No condition of its own.
-/
import Derived.Test.YtpclplbogmpojaaDoorB6
import Derived.Shelf.Strings.Builder1
import Derived.Shelf.Strings.Builder2
import Derived.Shelf.Strings.OnBuilder
import Derived.Shelf.Strings.Search1
import Derived.Shelf.Strings.Search2
import Derived.Shelf.Strings.Search3
import Derived.Shelf.Strings.Count
import Derived.Shelf.LaysM
import Derived.Shelf.Strings.Shaped
import Derived.Shelf.Strings.Split
import Derived.Shelf.Strings.Replace
import Derived.Shelf.Strings.SplitShaped
import Derived.Shelf.Unicode.DecodeSlow
import Derived.Test.YtpclplbogmpojaaDoorProg
import Derived.Lib.SplitLaws
import Derived.Lib.ReplaceLaws
set_option linter.unusedSimpArgs false
set_option linter.unusedVariables false
section
set_option linter.unusedSimpArgs false
namespace Go.Am
open Go Go.Proofs

set_option maxRecDepth 200000
attribute [local irreducible] CallT Ent

theorem feed_app (r : Rdr) (s t : List UInt8) : r.feed (s ++ t) = (r.feed s).feed t := by simp [Rdr.feed]

/-- Once.Do of a reader -/
theorem do_rdr (o : Ob) (hr : ∀ r, o ≠ .ref r) : T 28 [.ptr 0 1, .fn 29 [.ptr 0 0]] [.obj o] (fun v M' _ => v = .tup [] ∧ M' = [.obj (.rdr o.start)]) := by
  cases o with
  | ref r => exact absurd rfl (hr r)
  | rdr r =>
    refine CallT.ent (Ent.open1 (unf := unfW) (o := Ob.rdr r) (by simp [unfW])) (do_done (M := unfW (.rdr r)) (id := 0) (off := 1) (ek := none) (cs := r.root 1 tabOf) rfl rfl) ?_
    rintro v M1 ch ⟨rfl, rfl, rfl⟩ _
    exact ⟨.tup [], [.obj (.rdr r)], [0], Ent.pack1 (cs := [1, 2, 3]) (Parts.low (by decide) (.some rfl (.cells (low_root 1 tabOf (low_bySl rfl _) (low_bySl rfl _) (low_toSl rfl _))) (part_by (.inr rfl) (part_by (.inr rfl) (part_to (.inr rfl) .nil))))) (by simp [unfW]) low_unit (by simp [unfW]), ⟨rfl, rfl⟩, ⟨by simp, fun i hi hn => by simp at hi hn; omega⟩⟩
  | fresh bin =>
    refine CallT.ent (.trans (Ent.open1 (unf := unfW) (o := Ob.fresh bin) (by simp [unfW])) (.low (τ := [0]) (M' := [.cells none (Rdr.root 0 (List.replicate 30 0) (.new bin))]) (Parts.low (by decide) (.some rfl (.cells ?_) .nil)) (.cons (.ptr rfl) (.cons (.fnL (.cons (.ptr rfl) (.nil _))) (.nil _))) (by simp) (fun i hi => ?_)))
      (do_first (M := [.cells none (Rdr.root 0 (List.replicate 30 0) (.new bin))]) (id := 0) (off := 1) (R := fun v M' => v = .tup [] ∧ M' = [.cells none (Rdr.root 1 tabOf (.new bin))]) rfl rfl rfl (fill_ok bin 0 1 0) ?_) ?_
    · exact low_root (r := .new bin) 0 (List.replicate 30 0) .nilS .nilS .nilS
    · obtain rfl : i = 0 := by simpa using hi
      rfl
    · rintro v M1 ch ⟨rfl, rfl, rfl⟩
      exact ⟨none, _, rfl, rfl, rfl, rfl, rfl⟩
    · rintro v M1 ch ⟨rfl, rfl⟩ _
      exact ⟨.tup [], [.obj (.rdr (.new bin))], [0], Ent.pack1 (cs := [1, 2, 3]) (Parts.low (by decide) (.some rfl (.cells (low_root (r := .new bin) 1 tabOf .nilS .nilS .nilS)) (part_by (.inl rfl) (part_by (.inl rfl) (part_to (.inl rfl) .nil))))) (by simp [unfW]) low_unit (by simp), ⟨rfl, rfl⟩, ⟨by simp, fun i hi hn => by simp at hi hn; omega⟩⟩

theorem feed_ok (o : Ob) (hr : ∀ r, o ≠ .ref r) (xs : List (List UInt8)) (m : Nat) (ho : o.start.fits m) (hm : m + xs.flatten.length ≤ 10000000) (hx : xs.length ≤ 10000000) : T 20 [.ptr 0 0, .sl 1 0 xs.length xs.length] [.obj o, .cells none (xs.map .str)]
    (fun v M' _ => v = toSl 2 (o.start.feed xs.flatten).flush.out ∧ M' = [.obj (.rdr { (o.start.feed xs.flatten).flush with out := none }), .cells none (xs.map .str), toRow (o.start.feed xs.flatten).flush.out]) := by
  refine CallT.by_body Tryd.func20 rfl Tryd.call20 rfl (.refl _ _ _) ?_
  ((conv => whnf); (repeat ((with_reducible refine Rest.mk ?_); (conv => whnf))))
  refine CallT.objAt (r := 0) (g := fun o' v => o' = .rdr o.start ∧ v = .tup []) ((do_rdr o hr).mono fun v M' ch h _ => ⟨_, ⟨rfl, h.1⟩, h.2⟩) rfl (.cons (.ptr rfl) (.cons (.fnL (.cons (.ptr rfl) (.nil _))) (.nil _))) ?_
  rintro o' v ⟨rfl, rfl⟩
  ((conv => whnf); (repeat ((with_reducible refine Rest.mk ?_); (conv => whnf))))
  refine .inl (loopG (α := Nat) (inv := fun k => k ≤ xs.length) (st := fun k => [.ptr 0 0, .sl 1 0 xs.length xs.length, .und, .und, .nilS, .und, .und, .und, .und, .und, .und, .und, .und, .und, .und, .und, .und, .sl 1 0 xs.length xs.length, .int .i64 xs.length, .int .i64 (k : Nat), .und, .und, .und, .und, .und, .und, .und, .und, .und, .und, .und, .und, .und, .und, .und, .und, .und, .und, .und, .und, .und, .und, .und, .und, .und])
    (mm := fun k => [.obj (.rdr (o.start.feed (xs.take k).flatten)), .cells none (xs.map .str)]) (μ := fun k => xs.length - k) 0 (Nat.zero_le _) ?_ ?_)
  · exact .env (by (repeat' (first | exact LowL.nil _ | refine LowL.cons (.und _) ?_ | refine LowL.cons (.int _ _) ?_ | refine LowL.cons (.str _) ?_ | refine LowL.cons (.bool _) ?_ | refine LowL.cons (.ptr rfl) ?_ | refine LowL.cons (.sl rfl) ?_ | refine LowL.cons (low_vsS _ _) ?_ | refine LowL.cons (low_vsI _ _) ?_ | refine LowL.cons (low_tx rfl _) ?_ | refine LowL.cons .nilS ?_ | refine LowL.cons .nilP ?_ | refine LowL.cons (low_acc rfl _) ?_ | refine LowL.cons (low_toSl rfl _) ?_ | refine LowL.cons (low_bySl rfl _) ?_ | refine LowL.cons (low_toSlE rfl (by simp)) ?_)))
  intro k hk
  ((conv => whnf); (repeat ((with_reducible refine Rest.mk ?_); (conv => whnf))))
  refine testK_split (fun h => ?_) (fun h => ?_) <;> ((conv => whnf); (repeat ((with_reducible refine Rest.mk ?_); (conv => whnf))))
  · simp only [decide_eq_true_eq] at h
    have hkn : k < xs.length := by omega
    refine testK_true (by simp; omega) ?_
    ((conv => whnf); (repeat ((with_reducible refine Rest.mk ?_); (conv => whnf))))
    refine dropHead (v := .str xs[k]) (by simp [sz9, hkn]) ?_
    ((conv => whnf); (repeat ((with_reducible refine Rest.mk ?_); (conv => whnf))))
    have hxk : xs[k].length ≤ xs.flatten.length := by
      have := List.getElem_mem hkn
      exact List.Sublist.length_le (List.sublist_flatten_of_mem this)
    have hpre : (xs.take k).flatten.length + xs[k].length ≤ xs.flatten.length := by
      conv => rhs; rw [← List.take_append_drop k xs, List.flatten_append, List.drop_eq_getElem_cons hkn, List.flatten_cons]
      simp
    have hfit := ho.feed (xs.take k).flatten
    have hnext : (o.start.feed (xs.take k).flatten).feed xs[k] = o.start.feed (xs.take (k + 1)).flatten := by
      rw [← feed_app, List.take_succ_eq_append_getElem hkn, List.flatten_append]; simp only [List.flatten_cons, List.flatten_nil, List.append_nil]
    generalize xs[k] = x at hxk hpre hnext ⊢
    generalize o.start.feed (xs.take k).flatten = R at hfit hnext ⊢
    refine .inl (loopG (α := Nat) (inv := fun j => j ≤ x.length) (st := fun j => [.ptr 0 0, .sl 1 0 xs.length xs.length, .und, .und, .nilS, .und, .str x, .und, .und, .und, .und, .und, .und, .und, .und, .und, .und, .sl 1 0 xs.length xs.length, .int .i64 xs.length, .int .i64 (k : Nat), .und, .und, .und, .und, .int .i64 x.length, .int .i64 (j : Nat), .und, .und, .und, .und, .und, .und, .und, .und, .und, .und, .und, .und, .und, .und, .und, .und, .und, .und, .und])
      (mm := fun j => [.obj (.rdr (R.feed (x.take j))), .cells none (xs.map .str)]) (μ := fun j => x.length - j) 0 (Nat.zero_le _) ?_ ?_)
    · exact .env (by (repeat' (first | exact LowL.nil _ | refine LowL.cons (.und _) ?_ | refine LowL.cons (.int _ _) ?_ | refine LowL.cons (.str _) ?_ | refine LowL.cons (.bool _) ?_ | refine LowL.cons (.ptr rfl) ?_ | refine LowL.cons (.sl rfl) ?_ | refine LowL.cons (low_vsS _ _) ?_ | refine LowL.cons (low_vsI _ _) ?_ | refine LowL.cons (low_tx rfl _) ?_ | refine LowL.cons .nilS ?_ | refine LowL.cons .nilP ?_ | refine LowL.cons (low_acc rfl _) ?_ | refine LowL.cons (low_toSl rfl _) ?_ | refine LowL.cons (low_bySl rfl _) ?_ | refine LowL.cons (low_toSlE rfl (by simp)) ?_)))
    intro j hj
    ((conv => whnf); (repeat ((with_reducible refine Rest.mk ?_); (conv => whnf))))
    refine testK_split (fun h => ?_) (fun h => ?_) <;> ((conv => whnf); (repeat ((with_reducible refine Rest.mk ?_); (conv => whnf))))
    · simp only [decide_eq_true_eq] at h
      have hjn : j < x.length := by omega
      refine testK_true (by simp; omega) ?_
      ((conv => whnf); (repeat ((with_reducible refine Rest.mk ?_); (conv => whnf))))
      have hfj := hfit.feed (x.take j)
      have hjl : (x.take j).length ≤ x.length := by simp; omega
      have e1 : ((j : Int)).toNat = j := by simp
      have e2 : (R.feed (x.take j)).step (x.getD j 0) = R.feed (x.take (j + 1)) := by
        rw [List.take_succ_eq_append_getElem hjn, feed_app]; simp [Rdr.feed, hjn]
      rw [e1]
      refine CallT.objAt (r := 0) (g := fun o' v => o' = .rdr (R.feed (x.take (j + 1))) ∧ v = .tup []) ((step_ok _ (x.getD j 0) hfj.1 (by have := hfj.2.1; omega) (by have := hfj.2.2; omega)).mono fun v M' ch h _ => ⟨_, ⟨by rw [← e2], h.1⟩, h.2.1⟩) rfl (.cons (.ptr rfl) (.cons (.int _ _) (.nil _))) ?_
      rintro o' v ⟨rfl, rfl⟩
      ((conv => whnf); (repeat ((with_reducible refine Rest.mk ?_); (conv => whnf))))
      rw [wrap_succ (by omega)]
      exact ⟨j + 1, _, _, .env (by (repeat' (first | exact LowL.nil _ | refine LowL.cons (.und _) ?_ | refine LowL.cons (.int _ _) ?_ | refine LowL.cons (.str _) ?_ | refine LowL.cons (.bool _) ?_ | refine LowL.cons (.ptr rfl) ?_ | refine LowL.cons (.sl rfl) ?_ | refine LowL.cons (low_vsS _ _) ?_ | refine LowL.cons (low_vsI _ _) ?_ | refine LowL.cons (low_tx rfl _) ?_ | refine LowL.cons .nilS ?_ | refine LowL.cons .nilP ?_ | refine LowL.cons (low_acc rfl _) ?_ | refine LowL.cons (low_toSl rfl _) ?_ | refine LowL.cons (low_bySl rfl _) ?_ | refine LowL.cons (low_toSlE rfl (by simp)) ?_))), ⟨hjn, rfl, rfl⟩, by omega⟩
    · have hjx : j = x.length := by simp at h; omega
      subst hjx
      rw [List.take_length, hnext, wrap_succ (by omega)]
      exact ⟨k + 1, _, _, .env (by (repeat' (first | exact LowL.nil _ | refine LowL.cons (.und _) ?_ | refine LowL.cons (.int _ _) ?_ | refine LowL.cons (.str _) ?_ | refine LowL.cons (.bool _) ?_ | refine LowL.cons (.ptr rfl) ?_ | refine LowL.cons (.sl rfl) ?_ | refine LowL.cons (low_vsS _ _) ?_ | refine LowL.cons (low_vsI _ _) ?_ | refine LowL.cons (low_tx rfl _) ?_ | refine LowL.cons .nilS ?_ | refine LowL.cons .nilP ?_ | refine LowL.cons (low_acc rfl _) ?_ | refine LowL.cons (low_toSl rfl _) ?_ | refine LowL.cons (low_bySl rfl _) ?_ | refine LowL.cons (low_toSlE rfl (by simp)) ?_))), ⟨hkn, rfl, rfl⟩, by omega⟩
  · have hkx : k = xs.length := by simp at h; omega
    subst hkx
    rw [List.take_length]
    have hfit := ho.feed xs.flatten
    generalize o.start.feed xs.flatten = R at hfit ⊢
    refine CallT.objU (r := 0) (g := fun o' v => o' = .rdr R.flush ∧ v = .tup []) ((flush_ok R (by have := hfit.2.1; omega)).mono fun v M' ch h _ => ⟨_, ⟨rfl, h.1⟩, h.2.1⟩) rfl (.cons (.ptr rfl) (.nil _)) ?_
    rintro o' v ⟨rfl, rfl⟩
    refine ⟨rfl, ?_⟩
    generalize R.flush = F
    rw [List.set_cons_zero, unfold_rdr]
    obtain ⟨bin, st, after, cmd, opt, sub, long, data, out⟩ := F
    ((conv => whnf); (repeat ((with_reducible refine Rest.mk ?_); (conv => whnf))))
    refine fin.mk _ _ [0] (.trans (Ent.fold (o := .rdr ⟨bin, st, after, cmd, opt, sub, long, data, none⟩) (r := 0) (cs := [2, 3, 9]) (Parts.low (by decide) (.some rfl (.cells (low_root (r := ⟨bin, st, after, cmd, opt, sub, long, data, none⟩) 1 tabOf (low_bySl rfl _) (low_bySl rfl _) .nilS)) (part_by (.inr rfl) (part_by (.inr rfl) (part_to (.inl rfl) .nil))))) (by simp [unfW]) (by simp))
      (.low (τ := [0, 1, 4]) (Parts.low (by decide) (.some rfl (.obj _) (.some rfl (.cells (.flat fun v hv => ?_)) (part_to (.inr rfl) .nil)))) (.cons (low_toSl rfl _) (.nil _)) (by simp) (fun i hi => ?_))) ⟨rfl, rfl⟩ ⟨by simp, fun i hi hn => ?_⟩
    · simp at hv; obtain ⟨a, _, rfl⟩ := hv; exact .str _
    · rcases (show i = 0 ∨ i = 1 by simp at hi; omega) with rfl | rfl <;> rfl
    · rcases (show i = 1 by simp at hi hn; omega) with rfl; rfl
end Go.Am
end
section
set_option linter.unusedSimpArgs false
namespace Go.Am
open Go Go.Proofs

/-- the reader's own answer -/
def nvtToks (bin : Bool) (s : List UInt8) : List Tok := ((Rdr.new bin).feed s).flush.out.getD []

theorem mem_plain {l : List Tok} {t : Tok} (h : t ∈ l) (h0 : t.kind = 0) : t.text.length ≤ (plainText l).length := by
  induction l with
  | nil => simp at h
  | cons x l ih =>
    simp only [plainText, List.flatMap_cons, List.length_append]
    rcases List.mem_cons.1 h with rfl | h
    · rw [if_pos h0]; omega
    · have := ih h; simp only [plainText] at this; omega

theorem tok_take {R : List AV → Prop} {l : List Tok} {k off n : Nat} (hk : k < l.length) (hoff : off = k * 4) (hn : n = 4) (h : R l[k].cells) : dropK (takeK R n) off (l.flatMap Tok.cells) := by
  subst hoff hn
  have e : (l.flatMap Tok.cells).drop (k * 4) = l[k].cells ++ (l.drop (k + 1)).flatMap Tok.cells := by
    conv => lhs; rw [← List.take_append_drop k l, List.flatMap_append]
    rw [List.drop_append, toks_length, List.length_take, Nat.min_eq_left (by omega), Nat.sub_self, List.drop_of_length_le (by rw [toks_length, List.length_take]; omega), List.nil_append, List.drop_zero, List.drop_eq_getElem_cons hk, List.flatMap_cons]
  refine dropK_iff.2 ⟨by rw [toks_length]; omega, ?_⟩
  rw [e]
  refine takeK_iff.2 ⟨by simp [Tok.cells], ?_⟩
  rw [show 4 = l[k].cells.length from rfl, List.take_left]
  exact h

set_option maxRecDepth 100000
attribute [local irreducible] CallT Ent pushA

theorem plain_ok (bin : Bool) (s : List UInt8) (hs : s.length ≤ 1000000) (hpl : (plainText (nvtToks bin s)).length ≤ 1000000) : T 9 [.bool bin, .str s] [] (fun v M' _ => v = .str (plainText (nvtToks bin s)) ∧ M' = []) := by
  refine CallT.by_body Tryd.func9 rfl Tryd.call9 rfl (.refl _ _ _) ?_
  ((conv => whnf); (repeat ((with_reducible refine Rest.mk ?_); (conv => whnf))))
  have hfeed := feed_ok (.fresh bin) (by simp) [s] 0 (Rdr.fits.new bin) (by simp; omega) (by simp)
  have hfit := (Rdr.fits.new bin).feed s
  simp only [Ob.start, List.flatten_cons, List.flatten_nil, List.append_nil] at hfeed
  unfold nvtToks at hpl ⊢
  have hol := flush_out ((Rdr.new bin).feed s)
  have hol2 := hfit.2.1
  generalize ((Rdr.new bin).feed s).flush = F at hfeed hpl hol ⊢
  refine CallT.ent (Ent.fold (o := Ob.fresh bin) (r := 0) (cs := [7, 8, 9]) (Parts.low (by decide) (.some rfl (.cells (low_root (r := Rdr.new bin) 0 (List.replicate 30 0) .nilS .nilS .nilS)) (.dead (.dead (.dead .nil))))) (by simp [unfW]) (by simp)) hfeed ?_
  rintro v M1 ch ⟨rfl, rfl⟩ hch
  clear hch
  refine ⟨_, _, [0, 1], .refl _ _ _, ?_, ⟨by simp, fun i hi hn => by simp at hi hn; omega⟩⟩
  obtain ⟨fb, fst, fa, fc, fo, fsub, fl, fd, out⟩ := F
  simp only at hpl hol ⊢
  clear hfeed hfit
  have hend : ∀ (bs : List UInt8) (M : Mem Ob), bs = plainText (out.getD []) → fin unfW 0 [] (fun v M' _ => v = .str (plainText (out.getD [])) ∧ M' = []) (.str bs) M := fun bs M h => by
    subst h; exact fin.flat (.str _) ⟨rfl, rfl⟩
  rcases out with _ | l
  · ((conv => whnf); (repeat ((with_reducible refine Rest.mk ?_); (conv => whnf))))
    refine .inr ⟨1, ?_⟩
    ((conv => whnf); (repeat ((with_reducible refine Rest.mk ?_); (conv => whnf))))
    exact hend _ _ rfl
  simp only [Option.getD_some] at hpl hol hend ⊢
  ((conv => whnf); (repeat ((with_reducible refine Rest.mk ?_); (conv => whnf))))
  refine .inl (loopG (α := Nat × Option (List UInt8)) (inv := fun a => a.1 ≤ l.length ∧ a.2.getD [] = plainText (l.take a.1))
    (st := fun a => [.und, .und, .und, .und, .str [], accSl 0 a.2, .und, .und, .und, .und, .und, .und, .und, .sl 1 0 l.length l.length, .int .i64 l.length, .int .i64 (a.1 : Nat), .und, .und, .und, .und, .und, .und, .und, .und, .und, .und, .und, .und, .und])
    (mm := fun a => [accRow a.2, .cells (some 4) (l.flatMap Tok.cells)]) (μ := fun a => l.length - a.1) (0, none) (by simp [plainText]) ?_ ?_)
  · exact .low (τ := [9, 2]) (Parts.low (by decide) (.dead (.some rfl (.cells (.flat (flat_toks l))) .nil))) (by (repeat' (first | exact LowL.nil _ | refine LowL.cons (.und _) ?_ | refine LowL.cons (.int _ _) ?_ | refine LowL.cons (.str _) ?_ | refine LowL.cons (.bool _) ?_ | refine LowL.cons (.ptr rfl) ?_ | refine LowL.cons (.sl rfl) ?_ | refine LowL.cons (low_vsS _ _) ?_ | refine LowL.cons (low_vsI _ _) ?_ | refine LowL.cons (low_tx rfl _) ?_ | refine LowL.cons .nilS ?_ | refine LowL.cons .nilP ?_ | refine LowL.cons (low_acc rfl _) ?_ | refine LowL.cons (low_toSl rfl _) ?_ | refine LowL.cons (low_bySl rfl _) ?_ | refine LowL.cons (low_toSlE rfl (by simp)) ?_))) (Nat.zero_le _) (fun i hi => by simp at hi)
  rintro ⟨k, acc⟩ ⟨hk, hacc⟩
  dsimp only at hk hacc ⊢
  have hsplit : ∀ j, (plainText (l.take j)).length ≤ 1000000 := fun j => Nat.le_trans (plain_take l j) hpl
  have hal : (acc.getD []).length ≤ 1000000 := by rw [hacc]; exact hsplit k
  ((conv => whnf); (repeat ((with_reducible refine Rest.mk ?_); (conv => whnf))))
  refine testK_split (fun h => ?_) (fun h => ?_) <;> ((conv => whnf); (repeat ((with_reducible refine Rest.mk ?_); (conv => whnf))))
  · simp only [decide_eq_true_eq] at h
    have hkn : k < l.length := by omega
    have hnext := plain_snoc (l.take k) l[k]
    rw [← List.take_succ_eq_append_getElem hkn, ← hacc] at hnext
    have htk := mem_plain (List.getElem_mem hkn)
    refine testK_true (by simp; omega) ?_
    ((conv => whnf); (repeat ((with_reducible refine Rest.mk ?_); (conv => whnf))))
    refine tok_take hkn (by simp [sz61]) (sz61 _) ?_
    generalize l[k] = t at hnext htk ⊢
    ((conv => whnf); (repeat ((with_reducible refine Rest.mk ?_); (conv => whnf))))
    refine testK_split (fun hx0 => ?_) (fun hx0 => ?_) <;> ((conv => whnf); (repeat ((with_reducible refine Rest.mk ?_); (conv => whnf))))
    · have hx1 : t.kind = 0 := by simpa using hx0
      rw [if_pos hx1] at hnext
      have htk := htk hx1
      by_cases h0 : t.text = []
      · rw [h0, List.append_nil] at hnext
        rw [h0]
        refine push_empty rfl (by simp [encB]) (sz5 _) ?_
        ((conv => whnf); (repeat ((with_reducible refine Rest.mk ?_); (conv => whnf))))
        rw [wrap_succ (by omega)]
        exact ⟨(k + 1, acc), _, _, .low (τ := [0, 1]) (Parts.low (by decide) (part_acc (.inr rfl) (.some rfl (.cells (.flat (flat_toks l))) .nil))) (by (repeat' (first | exact LowL.nil _ | refine LowL.cons (.und _) ?_ | refine LowL.cons (.int _ _) ?_ | refine LowL.cons (.str _) ?_ | refine LowL.cons (.bool _) ?_ | refine LowL.cons (.ptr rfl) ?_ | refine LowL.cons (.sl rfl) ?_ | refine LowL.cons (low_vsS _ _) ?_ | refine LowL.cons (low_vsI _ _) ?_ | refine LowL.cons (low_tx rfl _) ?_ | refine LowL.cons .nilS ?_ | refine LowL.cons .nilP ?_ | refine LowL.cons (low_acc rfl _) ?_ | refine LowL.cons (low_toSl rfl _) ?_ | refine LowL.cons (low_bySl rfl _) ?_ | refine LowL.cons (low_toSlE rfl (by simp)) ?_))) (Nat.zero_le _) (fun i hi => by simp at hi), ⟨⟨hkn, hnext.symm⟩, rfl, rfl⟩, by simp; omega⟩
      · refine push_bytes (sz5 _) (by5 _) (fun R h => zero_uint8 R h _) rfl rfl rfl h0 (by omega) ?_
        ((conv => whnf); (repeat ((with_reducible refine Rest.mk ?_); (conv => whnf))))
        rw [wrap_succ (by omega)]
        exact ⟨(k + 1, some (acc.getD [] ++ t.text)), _, _, .low (τ := [3, 1]) (Parts.low (by decide) (part_acc (.inr rfl) (.some rfl (.cells (.flat (flat_toks l))) .nil))) (by (repeat' (first | exact LowL.nil _ | refine LowL.cons (.und _) ?_ | refine LowL.cons (.int _ _) ?_ | refine LowL.cons (.str _) ?_ | refine LowL.cons (.bool _) ?_ | refine LowL.cons (.ptr rfl) ?_ | refine LowL.cons (.sl rfl) ?_ | refine LowL.cons (low_vsS _ _) ?_ | refine LowL.cons (low_vsI _ _) ?_ | refine LowL.cons (low_tx rfl _) ?_ | refine LowL.cons .nilS ?_ | refine LowL.cons .nilP ?_ | refine LowL.cons (low_acc rfl _) ?_ | refine LowL.cons (low_toSl rfl _) ?_ | refine LowL.cons (low_bySl rfl _) ?_ | refine LowL.cons (low_toSlE rfl (by simp)) ?_))) (Nat.zero_le _) (fun i hi => by simp at hi), ⟨⟨hkn, hnext.symm⟩, rfl, rfl⟩, by simp; omega⟩
    · have hx1 : t.kind ≠ 0 := by simpa using hx0
      rw [if_neg hx1, List.append_nil] at hnext
      rw [wrap_succ (by omega)]
      exact ⟨(k + 1, acc), _, _, .low (τ := [0, 1]) (Parts.low (by decide) (part_acc (.inr rfl) (.some rfl (.cells (.flat (flat_toks l))) .nil))) (by (repeat' (first | exact LowL.nil _ | refine LowL.cons (.und _) ?_ | refine LowL.cons (.int _ _) ?_ | refine LowL.cons (.str _) ?_ | refine LowL.cons (.bool _) ?_ | refine LowL.cons (.ptr rfl) ?_ | refine LowL.cons (.sl rfl) ?_ | refine LowL.cons (low_vsS _ _) ?_ | refine LowL.cons (low_vsI _ _) ?_ | refine LowL.cons (low_tx rfl _) ?_ | refine LowL.cons .nilS ?_ | refine LowL.cons .nilP ?_ | refine LowL.cons (low_acc rfl _) ?_ | refine LowL.cons (low_toSl rfl _) ?_ | refine LowL.cons (low_bySl rfl _) ?_ | refine LowL.cons (low_toSlE rfl (by simp)) ?_))) (Nat.zero_le _) (fun i hi => by simp at hi), ⟨⟨hkn, hnext.symm⟩, rfl, rfl⟩, by simp; omega⟩
  · have hkx : k = l.length := by simp at h; omega
    subst hkx
    rw [List.take_length] at hacc
    rcases acc with _ | acc
    · ((conv => whnf); (repeat ((with_reducible refine Rest.mk ?_); (conv => whnf))))
      exact hend _ _ hacc
    · ((conv => whnf); (repeat ((with_reducible refine Rest.mk ?_); (conv => whnf))))
      refine testK_true (by simp [encB_length]) ?_
      rw [Nat.mul_one, sub_encB]
      refine testK_true (all_encB _) ?_
      rw [decB_encB]
      ((conv => whnf); (repeat ((with_reducible refine Rest.mk ?_); (conv => whnf))))
      exact hend _ _ hacc
end Go.Am
end
section
namespace Go.Proofs
open Go.Shelf
def Tryd.lays169_ren : Go.Shelf.Ren := ⟨fun | 169 => 34 | n => n, fun | 70 => 72 | 9 => 9 | 0 => 0 | 72 => 74 | 37 => 54 | 127 => 87 | 3 => 3 | 5 => 5 | n => n, fun | n => n⟩
theorem Tryd.lays169 : Go.Proofs.Lays.n169 Tryd.prog Tryd.lays169_ren := {
  mixed := by kernel_rfl
  f169 := Tryd.func34.trans (congrArg some (by kernel_rfl))
  t0 := Tryd.underlying0
  a0 := Tryd.isAgg0
  z0 := Tryd.sizeOf0
  v0 := Tryd.zeroValue0
  t3 := Tryd.underlying3
  a3 := Tryd.isAgg3
  z3 := Tryd.sizeOf3
  v3 := Tryd.zeroValue3
  t9 := Tryd.underlying9
  a9 := Tryd.isAgg9
  z9 := Tryd.sizeOf9
  v9 := Tryd.zeroValue9
  t37 := Tryd.underlying54
  a37 := Tryd.isAgg54
  z37 := Tryd.sizeOf54
  v37 := Tryd.zeroValue54
  t70 := Tryd.underlying72
  a70 := Tryd.isAgg72
  z70 := Tryd.sizeOf72
  v70 := Tryd.zeroValue72
  t72 := Tryd.underlying74
  a72 := Tryd.isAgg74
  z72 := Tryd.sizeOf74
  v72 := Tryd.zeroValue74
  t127 := Tryd.underlying87
  a127 := Tryd.isAgg87
  z127 := Tryd.sizeOf87
  v127 := Tryd.zeroValue87 }
theorem Tryd.Builder_Extra_169 : Builder.Extra Tryd.prog Tryd.lays169_ren := {
  sizeBuilder := by kernel_rfl
  liesBuilder := by kernel_rfl
  t5 := Tryd.underlying5
  a5 := Tryd.isAgg5
  z5 := Tryd.sizeOf5
  v5 := Tryd.zeroValue5
  infoByte := by kernel_rfl
  cellsByte := by kernel_rfl
  sizeByte := by kernel_rfl
  neB5 := by decide }
open Go.RowKit in
/-- (*strings.Builder).String: "String returns the accumulated string.": OF A BUILDER THAT HOLDS AT LEAST ONE BYTE. ✋ THE MODEL FREEZES THOSE BYTES IN THE BUFFER (unsafe.String): a later write INTO them ends the model's run without an answer; a later append BEHIND them goes on. The statement's order of evaluation is drawn: one draw. (LAID: no walk: one application.) -/
theorem Tryd.Builder_String (B b : Nat) (l : List UInt8) (w : World) (h : Lib.IsBuilder 74 5 B b (Lib.byteCells l) w) (h0 : l ≠ []) :
    Calls Tryd.prog 34 #[.pointer (some ⟨b, 0, none⟩)] w fun e w' => e = .returned (.string ⟨l.toArray⟩) ∧ Below B w w' := Any.Builder_String Tryd.lays169 Tryd.Builder_Extra_169 B b l w h h0
open Go.RowKit in
/-- (*strings.Builder).String OF A BUILDER THAT HOLDS NO BYTE: the empty string. (Its buffer is nil, or a row of which it has taken nothing yet; where that row has NO capacity the model lays one new block for unsafe.SliceData's 'some address'.) One draw. (LAID: no walk: one application.) -/
theorem Tryd.Builder_String_empty (B b : Nat) (w : World) (h : Lib.IsBuilder 74 5 B b [] w) (hBw : B ≤ w.heap.size) :
    Calls Tryd.prog 34 #[.pointer (some ⟨b, 0, none⟩)] w fun e w' => e = .returned (.string ⟨#[]⟩) ∧ Below B w w' := Any.Builder_String_empty Tryd.lays169 Tryd.Builder_Extra_169 B b w h hBw
open Go.RowKit in
/-- (*strings.Builder).String: "String returns the accumulated string.": WHATEVER THE BUILDER HOLDS. (LAID: no walk: one application.) -/
theorem Tryd.Builder_String_any (B b : Nat) (l : List UInt8) (w : World) (h : Lib.IsBuilder 74 5 B b (Lib.byteCells l) w) (hBw : B ≤ w.heap.size) :
    Calls Tryd.prog 34 #[.pointer (some ⟨b, 0, none⟩)] w fun e w' => e = .returned (.string ⟨l.toArray⟩) ∧ Below B w w' := Any.Builder_String_any Tryd.lays169 Tryd.Builder_Extra_169 B b l w h hBw
def Tryd.lays241_ren : Go.Shelf.Ren := ⟨fun | 241 => 44 | 277 => 54 | n => n, fun | 70 => 72 | 3 => 3 | 0 => 0 | 72 => 74 | 37 => 54 | 5 => 5 | n => n, fun | n => n⟩
theorem Tryd.lays241 : Go.Proofs.Lays.n241 Tryd.prog Tryd.lays241_ren := {
  mixed := by kernel_rfl
  f241 := Tryd.func44.trans (congrArg some (by kernel_rfl))
  f277 := Tryd.func54.trans (congrArg some (by kernel_rfl))
  t0 := Tryd.underlying0
  a0 := Tryd.isAgg0
  z0 := Tryd.sizeOf0
  v0 := Tryd.zeroValue0
  t3 := Tryd.underlying3
  a3 := Tryd.isAgg3
  z3 := Tryd.sizeOf3
  v3 := Tryd.zeroValue3
  t37 := Tryd.underlying54
  a37 := Tryd.isAgg54
  z37 := Tryd.sizeOf54
  v37 := Tryd.zeroValue54
  t70 := Tryd.underlying72
  a70 := Tryd.isAgg72
  z70 := Tryd.sizeOf72
  v70 := Tryd.zeroValue72
  t72 := Tryd.underlying74
  a72 := Tryd.isAgg74
  z72 := Tryd.sizeOf74
  v72 := Tryd.zeroValue74 }
theorem Tryd.Builder_Extra_241 : Builder.Extra Tryd.prog Tryd.lays241_ren := {
  sizeBuilder := by kernel_rfl
  liesBuilder := by kernel_rfl
  t5 := Tryd.underlying5
  a5 := Tryd.isAgg5
  z5 := Tryd.sizeOf5
  v5 := Tryd.zeroValue5
  infoByte := by kernel_rfl
  cellsByte := by kernel_rfl
  sizeByte := by kernel_rfl
  neB5 := by decide }
open Go.RowKit in
/-- (*strings.Builder).grow (no doc but "grow copies the buffer to a new, larger buffer so that there are at least n bytes of capacity beyond len(b.buf)."): AT A BUILDER WITHOUT A BUFFER: a new row of whatever bytes for its buffer, none of them its own yet. Three draws. (LAID: no walk: one application.) -/
theorem Tryd.Builder_grow_fresh (B b n : Nat) (w : World) (hB : B ≤ b) (hbk : w.heap[b]? = some (.cells #[.pointer (some ⟨b, 0, none⟩), .slice none 0 0] 74 (0, 0))) (hBw : B ≤ w.heap.size) (hn : n ≤ 281474976710656) :
    Calls Tryd.prog 44 #[.pointer (some ⟨b, 0, none⟩), .int .i64 n] w fun e w' => e = .returned (.tuple #[]) ∧ (Lib.BuilderAt 74 5 B b (.pointer (some ⟨b, 0, none⟩)) [] w' ∧ Below B w w') := Any.Builder_grow_fresh Tryd.lays241 Tryd.Builder_Extra_241 B b n w hB hbk hBw hn
def Tryd.lays165_ren : Go.Shelf.Ren := ⟨fun | 165 => 32 | 240 => 43 | 241 => 44 | 276 => 53 | 277 => 54 | n => n, fun | 70 => 72 | 3 => 3 | 0 => 0 | 4 => 4 | 9 => 9 | 20 => 20 | 72 => 74 | 37 => 54 | 164 => 93 | 5 => 5 | n => n, fun | n => n⟩
theorem Tryd.lays165 : Go.Proofs.Lays.n165 Tryd.prog Tryd.lays165_ren := {
  mixed := by kernel_rfl
  f165 := Tryd.func32.trans (congrArg some (by kernel_rfl))
  f240 := Tryd.func43.trans (congrArg some (by kernel_rfl))
  f241 := Tryd.func44.trans (congrArg some (by kernel_rfl))
  f276 := Tryd.func53.trans (congrArg some (by kernel_rfl))
  f277 := Tryd.func54.trans (congrArg some (by kernel_rfl))
  t0 := Tryd.underlying0
  a0 := Tryd.isAgg0
  z0 := Tryd.sizeOf0
  v0 := Tryd.zeroValue0
  t3 := Tryd.underlying3
  a3 := Tryd.isAgg3
  z3 := Tryd.sizeOf3
  v3 := Tryd.zeroValue3
  t4 := Tryd.underlying4
  a4 := Tryd.isAgg4
  z4 := Tryd.sizeOf4
  v4 := Tryd.zeroValue4
  t9 := Tryd.underlying9
  a9 := Tryd.isAgg9
  z9 := Tryd.sizeOf9
  v9 := Tryd.zeroValue9
  t20 := Tryd.underlying20
  a20 := Tryd.isAgg20
  z20 := Tryd.sizeOf20
  v20 := Tryd.zeroValue20
  t37 := Tryd.underlying54
  a37 := Tryd.isAgg54
  z37 := Tryd.sizeOf54
  v37 := Tryd.zeroValue54
  t70 := Tryd.underlying72
  a70 := Tryd.isAgg72
  z70 := Tryd.sizeOf72
  v70 := Tryd.zeroValue72
  t72 := Tryd.underlying74
  a72 := Tryd.isAgg74
  z72 := Tryd.sizeOf74
  v72 := Tryd.zeroValue74
  t164 := Tryd.underlying93
  a164 := Tryd.isAgg93
  z164 := Tryd.sizeOf93
  v164 := Tryd.zeroValue93 }
theorem Tryd.Builder_Extra_165 : Builder.Extra Tryd.prog Tryd.lays165_ren := {
  sizeBuilder := by kernel_rfl
  liesBuilder := by kernel_rfl
  t5 := Tryd.underlying5
  a5 := Tryd.isAgg5
  z5 := Tryd.sizeOf5
  v5 := Tryd.zeroValue5
  infoByte := by kernel_rfl
  cellsByte := by kernel_rfl
  sizeByte := by kernel_rfl
  neB5 := by decide }
open Go.RowKit in
/-- (*strings.Builder).Grow AT A BUILDER THAT HAS NOT BEEN WRITTEN ('var b strings.Builder; b.Grow(n)'): "Grow grows b's capacity, if necessary, to guarantee space for another n bytes.": it holds no byte behind it as before it. (LAID: no walk: one application.) -/
theorem Tryd.Builder_Grow_fresh (B b n : Nat) (w : World) (hB : B ≤ b) (hbk : w.heap[b]? = some (.cells #[.pointer none, .slice none 0 0] 74 (0, 0))) (hBw : B ≤ w.heap.size) (hn : n ≤ 281474976710656) :
    Calls Tryd.prog 32 #[.pointer (some ⟨b, 0, none⟩), .int .i64 n] w fun e w' => e = .returned (.tuple #[]) ∧ (Lib.BuilderAt 74 5 B b (.pointer (some ⟨b, 0, none⟩)) [] w' ∧ Below B w w') := Any.Builder_Grow_fresh Tryd.lays165 Tryd.Builder_Extra_165 B b n w hB hbk hBw hn
def Tryd.lays156_ren : Go.Shelf.Ren := ⟨fun | 156 => 22 | 165 => 32 | 166 => 33 | 169 => 34 | 240 => 43 | 241 => 44 | 276 => 53 | 277 => 54 | n => n, fun | 31 => 22 | 9 => 9 | 3 => 3 | 4 => 4 | 0 => 0 | 20 => 20 | 72 => 74 | 76 => 78 | 70 => 72 | 37 => 54 | 75 => 77 | 127 => 87 | 164 => 93 | 5 => 5 | 80 => 80 | n => n, fun | n => n⟩
theorem Tryd.lays156 : Go.Proofs.Lays.n156 Tryd.prog Tryd.lays156_ren := {
  mixed := by kernel_rfl
  f156 := Tryd.func22.trans (congrArg some (by kernel_rfl))
  f165 := Tryd.func32.trans (congrArg some (by kernel_rfl))
  f166 := Tryd.func33.trans (congrArg some (by kernel_rfl))
  f169 := Tryd.func34.trans (congrArg some (by kernel_rfl))
  f240 := Tryd.func43.trans (congrArg some (by kernel_rfl))
  f241 := Tryd.func44.trans (congrArg some (by kernel_rfl))
  f276 := Tryd.func53.trans (congrArg some (by kernel_rfl))
  f277 := Tryd.func54.trans (congrArg some (by kernel_rfl))
  t0 := Tryd.underlying0
  a0 := Tryd.isAgg0
  z0 := Tryd.sizeOf0
  v0 := Tryd.zeroValue0
  t3 := Tryd.underlying3
  a3 := Tryd.isAgg3
  z3 := Tryd.sizeOf3
  v3 := Tryd.zeroValue3
  t4 := Tryd.underlying4
  a4 := Tryd.isAgg4
  z4 := Tryd.sizeOf4
  v4 := Tryd.zeroValue4
  t9 := Tryd.underlying9
  a9 := Tryd.isAgg9
  z9 := Tryd.sizeOf9
  v9 := Tryd.zeroValue9
  t20 := Tryd.underlying20
  a20 := Tryd.isAgg20
  z20 := Tryd.sizeOf20
  v20 := Tryd.zeroValue20
  t31 := Tryd.underlying22
  a31 := Tryd.isAgg22
  z31 := Tryd.sizeOf22
  v31 := Tryd.zeroValue22
  t37 := Tryd.underlying54
  a37 := Tryd.isAgg54
  z37 := Tryd.sizeOf54
  v37 := Tryd.zeroValue54
  t70 := Tryd.underlying72
  a70 := Tryd.isAgg72
  z70 := Tryd.sizeOf72
  v70 := Tryd.zeroValue72
  t72 := Tryd.underlying74
  a72 := Tryd.isAgg74
  z72 := Tryd.sizeOf74
  v72 := Tryd.zeroValue74
  t75 := Tryd.underlying77
  a75 := Tryd.isAgg77
  z75 := Tryd.sizeOf77
  v75 := Tryd.zeroValue77
  t76 := Tryd.underlying78
  a76 := Tryd.isAgg78
  z76 := Tryd.sizeOf78
  v76 := Tryd.zeroValue78
  t127 := Tryd.underlying87
  a127 := Tryd.isAgg87
  z127 := Tryd.sizeOf87
  v127 := Tryd.zeroValue87
  t164 := Tryd.underlying93
  a164 := Tryd.isAgg93
  z164 := Tryd.sizeOf93
  v164 := Tryd.zeroValue93 }
theorem Tryd.Builder_Extra_156 : Builder.Extra Tryd.prog Tryd.lays156_ren := {
  sizeBuilder := by kernel_rfl
  liesBuilder := by kernel_rfl
  t5 := Tryd.underlying5
  a5 := Tryd.isAgg5
  z5 := Tryd.sizeOf5
  v5 := Tryd.zeroValue5
  infoByte := by kernel_rfl
  cellsByte := by kernel_rfl
  sizeByte := by kernel_rfl
  neB5 := by decide }
open Go.RowKit in
/-- No element: the empty string; the world is as it was. (Whatever the slice's address and capacity: a nil slice too.) (LAID: no walk: one application.) -/
theorem Tryd.strings_Join_none (a : Option Addr) (c : Nat) (sep : ByteArray) (w : World) :
    Calls Tryd.prog 22 #[.slice a 0 c, .string sep] w fun e w' => e = .returned (.string ⟨#[]⟩) ∧ w' = w := Any.strings_Join_none Tryd.lays156 Tryd.Builder_Extra_156 a c sep w
open Go.RowKit in
/-- strings.Join: "Join concatenates the elements of its first argument to create a single string. The separator string sep is placed between elements in the resulting string.": HOWEVER MANY ELEMENTS. Below the heap's end the world is as it was. (LAID: no walk: one application.) -/
theorem Tryd.strings_Join (bk o c : Nat) (xs : List ByteArray) (sep : ByteArray) (w : World) (hcells : ∀ (j : Nat) x, xs[j]? = some x → w.cell? ⟨bk, o + j, none⟩ = some (.string x)) (hbk : bk < w.heap.size) (hN : xs.length ≤ 140737488355328) (hcap : xs.length ≤ c) (hlen : (Lib.join (xs.map (·.data.toList)) sep.data.toList).length ≤ 140737488355328) :
    Calls Tryd.prog 22 #[.slice (some ⟨bk, o, none⟩) xs.length c, .string sep] w fun e w' => e = .returned (.string ⟨(Lib.join (xs.map (·.data.toList)) sep.data.toList).toArray⟩) ∧ Below w.heap.size w w' := Any.strings_Join Tryd.lays156 Tryd.Builder_Extra_156 bk o c xs sep w hcells hbk hN hcap hlen
def Tryd.lays217_ren : Go.Shelf.Ren := ⟨fun | 217 => 74 | 266 => 85 | n => n, fun | 9 => 9 | 5 => 5 | 3 => 3 | n => n, fun | n => n⟩
theorem Tryd.lays217 : Go.Proofs.Lays.n217 Tryd.prog Tryd.lays217_ren := {
  mixed := by kernel_rfl
  f217 := Tryd.func74.trans (congrArg some (by kernel_rfl))
  f266 := Tryd.func85.trans (congrArg some (by kernel_rfl))
  t3 := Tryd.underlying3
  a3 := Tryd.isAgg3
  z3 := Tryd.sizeOf3
  v3 := Tryd.zeroValue3
  t5 := Tryd.underlying5
  a5 := Tryd.isAgg5
  z5 := Tryd.sizeOf5
  v5 := Tryd.zeroValue5
  t9 := Tryd.underlying9
  a9 := Tryd.isAgg9
  z9 := Tryd.sizeOf9
  v9 := Tryd.zeroValue9 }
open Go.RowKit Go.Lib in
/-- internal/stringslite.IndexByte (what strings.IndexByte calls): IT RETURNS 'Lib.indexByte s c'; the world is as it was. (LAID: no walk: one application.) -/
theorem Tryd.stringslite_IndexByte (s : ByteArray) (c : Int) (w : World) :
    Calls Tryd.prog 74 #[.string s, .int .u8 c] w fun e w' => e = .returned (.int .i64 (Lib.indexByte s.data.toList c.toNat.toUInt8)) ∧ w' = w := Any.stringslite_IndexByte Tryd.lays217 s c w
def Tryd.lays224_ren : Go.Shelf.Ren := ⟨fun | 224 => 76 | n => n, fun | 3 => 3 | n => n, fun | n => n⟩
theorem Tryd.lays224 : Go.Proofs.Lays.n224 Tryd.prog Tryd.lays224_ren := {
  mixed := by kernel_rfl
  f224 := Tryd.func76.trans (congrArg some (by kernel_rfl))
  t3 := Tryd.underlying3
  a3 := Tryd.isAgg3
  z3 := Tryd.sizeOf3
  v3 := Tryd.zeroValue3 }
open Go.RowKit Go.Lib in
/-- internal/bytealg.Cutover: "Cutover reports the number of failures of IndexByte we should tolerate before switching over to Index. n is the number of bytes processed so far.": on amd64: (n + 16) / 8. (LAID: no walk: one application.) -/
theorem Tryd.bytealg_Cutover (n : Int) (h0 : 0 ≤ n) (h1 : n < 4611686018427387904) (w : World) :
    Calls Tryd.prog 76 #[.int .i64 n] w fun e w' => e = .returned (.int .i64 ((n + 16) / 8)) ∧ w' = w := Any.bytealg_Cutover Tryd.lays224 n h0 h1 w
def Tryd.lays314_ren : Go.Shelf.Ren := ⟨fun | 314 => 86 | n => n, fun | 9 => 9 | 51 => 43 | 3 => 3 | 4 => 4 | 5 => 5 | 46 => 111 | n => n, fun | n => n⟩
theorem Tryd.lays314 : Go.Proofs.Lays.n314 Tryd.prog Tryd.lays314_ren := {
  mixed := by kernel_rfl
  f314 := Tryd.func86.trans (congrArg some (by kernel_rfl))
  t3 := Tryd.underlying3
  a3 := Tryd.isAgg3
  z3 := Tryd.sizeOf3
  v3 := Tryd.zeroValue3
  t4 := Tryd.underlying4
  a4 := Tryd.isAgg4
  z4 := Tryd.sizeOf4
  v4 := Tryd.zeroValue4
  t5 := Tryd.underlying5
  a5 := Tryd.isAgg5
  z5 := Tryd.sizeOf5
  v5 := Tryd.zeroValue5
  t9 := Tryd.underlying9
  a9 := Tryd.isAgg9
  z9 := Tryd.sizeOf9
  v9 := Tryd.zeroValue9
  t46 := Tryd.underlying111
  a46 := Tryd.isAgg111
  z46 := Tryd.sizeOf111
  v46 := Tryd.zeroValue111
  t51 := Tryd.underlying43
  a51 := Tryd.isAgg43
  z51 := Tryd.sizeOf43
  v51 := Tryd.zeroValue43 }
open Go.RowKit Go.Lib in
/-- hashStr: "returns the hash and the appropriate multiplicative factor for use in Rabin-Karp algorithm": THE HASH OF ALL OF sep, AND 16777619 ^ len(sep), both in uint32. (LAID: no walk: one application.) -/
theorem Tryd.bytealg_hashStr (sep : ByteArray) (hs : sep.size < 4294967281) (w : World) :
    Calls Tryd.prog 86 #[.string sep] w fun e w' => e = .returned (.tuple #[.int .u32 (RK.H sep.data.toList % 4294967296), .int .u32 (16777619 ^ sep.size % 4294967296)]) ∧ w' = w := Any.bytealg_hashStr Tryd.lays314 sep hs w
def Tryd.lays267_ren : Go.Shelf.Ren := ⟨fun | 267 => 77 | 314 => 86 | n => n, fun | 9 => 9 | 3 => 3 | 146 => 120 | 51 => 43 | 4 => 4 | 5 => 5 | 46 => 111 | n => n, fun | n => n⟩
theorem Tryd.lays267 : Go.Proofs.Lays.n267 Tryd.prog Tryd.lays267_ren := {
  mixed := by kernel_rfl
  f267 := Tryd.func77.trans (congrArg some (by kernel_rfl))
  f314 := Tryd.func86.trans (congrArg some (by kernel_rfl))
  t3 := Tryd.underlying3
  a3 := Tryd.isAgg3
  z3 := Tryd.sizeOf3
  v3 := Tryd.zeroValue3
  t4 := Tryd.underlying4
  a4 := Tryd.isAgg4
  z4 := Tryd.sizeOf4
  v4 := Tryd.zeroValue4
  t5 := Tryd.underlying5
  a5 := Tryd.isAgg5
  z5 := Tryd.sizeOf5
  v5 := Tryd.zeroValue5
  t9 := Tryd.underlying9
  a9 := Tryd.isAgg9
  z9 := Tryd.sizeOf9
  v9 := Tryd.zeroValue9
  t46 := Tryd.underlying111
  a46 := Tryd.isAgg111
  z46 := Tryd.sizeOf111
  v46 := Tryd.zeroValue111
  t51 := Tryd.underlying43
  a51 := Tryd.isAgg43
  z51 := Tryd.sizeOf43
  v51 := Tryd.zeroValue43
  t146 := Tryd.underlying120
  a146 := Tryd.isAgg120
  z146 := Tryd.sizeOf120
  v146 := Tryd.zeroValue120 }
open Go.RowKit Go.Lib in
theorem Tryd.bytealg_IndexRabinKarp (s sep : ByteArray) (h1 : 1 ≤ sep.size) (h2 : sep.size ≤ s.size) (hs : s.size < 4294967281) (w : World) :
    Calls Tryd.prog 77 #[.string s, .string sep] w fun e w' => e = .returned (.int .i64 (Lib.index s.data.toList sep.data.toList)) ∧ w' = w := Any.bytealg_IndexRabinKarp Tryd.lays267 s sep h1 h2 hs w
def Tryd.lays219_ren : Go.Shelf.Ren := ⟨fun | 219 => 64 | 217 => 74 | 225 => 75 | 224 => 76 | 267 => 77 | 266 => 85 | 314 => 86 | n => n, fun | 9 => 9 | 3 => 3 | 4 => 4 | 5 => 5 | 46 => 111 | 146 => 120 | 51 => 43 | n => n, fun | 1 => 0 | n => n⟩
theorem Tryd.lays219 : Go.Proofs.Lays.n219 Tryd.prog Tryd.lays219_ren := {
  mixed := by kernel_rfl
  f217 := Tryd.func74.trans (congrArg some (by kernel_rfl))
  f219 := Tryd.func64.trans (congrArg some (by kernel_rfl))
  f224 := Tryd.func76.trans (congrArg some (by kernel_rfl))
  f225 := Tryd.func75.trans (congrArg some (by kernel_rfl))
  f266 := Tryd.func85.trans (congrArg some (by kernel_rfl))
  f267 := Tryd.func77.trans (congrArg some (by kernel_rfl))
  f314 := Tryd.func86.trans (congrArg some (by kernel_rfl))
  t3 := Tryd.underlying3
  a3 := Tryd.isAgg3
  z3 := Tryd.sizeOf3
  v3 := Tryd.zeroValue3
  t4 := Tryd.underlying4
  a4 := Tryd.isAgg4
  z4 := Tryd.sizeOf4
  v4 := Tryd.zeroValue4
  t5 := Tryd.underlying5
  a5 := Tryd.isAgg5
  z5 := Tryd.sizeOf5
  v5 := Tryd.zeroValue5
  t9 := Tryd.underlying9
  a9 := Tryd.isAgg9
  z9 := Tryd.sizeOf9
  v9 := Tryd.zeroValue9
  t46 := Tryd.underlying111
  a46 := Tryd.isAgg111
  z46 := Tryd.sizeOf111
  v46 := Tryd.zeroValue111
  t51 := Tryd.underlying43
  a51 := Tryd.isAgg43
  z51 := Tryd.sizeOf43
  v51 := Tryd.zeroValue43
  t146 := Tryd.underlying120
  a146 := Tryd.isAgg120
  z146 := Tryd.sizeOf120
  v146 := Tryd.zeroValue120
  g1 := by kernel_rfl }
open Go.RowKit Go.Lib in
/-- internal/stringslite.Index (what strings.Index calls) AT A substr OF ONE BYTE c: IT RETURNS 'Lib.indexByte s c'; the world is as it was. (LAID: no walk: one application.) -/
theorem Tryd.stringslite_Index_one (s : ByteArray) (c : UInt8) (w : World) :
    Calls Tryd.prog 64 #[.string s, .string ⟨#[c]⟩] w fun e w' => e = .returned (.int .i64 (Lib.indexByte s.data.toList c)) ∧ w' = w := Any.stringslite_Index_one Tryd.lays219 s c w
open Go.RowKit Go.Lib in
/-- internal/stringslite.Index (what strings.Index calls) AT A substr OF WHATEVER LENGTH: IT RETURNS 'Lib.index s substr'; the world is as it was. 'm': what internal/bytealg.MaxLen holds: whatever. (LAID: no walk: one application.) -/
theorem Tryd.stringslite_Index (s sub : ByteArray) (m : Int) (w : World) (hs : s.size < 4294967281) (hm : w.cell? ⟨0, 0, none⟩ = some (.int .i64 m)) :
    Calls Tryd.prog 64 #[.string s, .string sub] w fun e w' => e = .returned (.int .i64 (Lib.index s.data.toList sub.data.toList)) ∧ w' = w := Any.stringslite_Index Tryd.lays219 s sub m w hs hm
def Tryd.lays143_ren : Go.Shelf.Ren := ⟨fun | 143 => 56 | 219 => 64 | 217 => 74 | 225 => 75 | 224 => 76 | 267 => 77 | 266 => 85 | 314 => 86 | n => n, fun | 9 => 9 | 3 => 3 | 4 => 4 | 5 => 5 | 46 => 111 | 146 => 120 | 51 => 43 | n => n, fun | 1 => 0 | n => n⟩
theorem Tryd.lays143 : Go.Proofs.Lays.n143 Tryd.prog Tryd.lays143_ren := {
  mixed := by kernel_rfl
  f143 := Tryd.func56.trans (congrArg some (by kernel_rfl))
  f217 := Tryd.func74.trans (congrArg some (by kernel_rfl))
  f219 := Tryd.func64.trans (congrArg some (by kernel_rfl))
  f224 := Tryd.func76.trans (congrArg some (by kernel_rfl))
  f225 := Tryd.func75.trans (congrArg some (by kernel_rfl))
  f266 := Tryd.func85.trans (congrArg some (by kernel_rfl))
  f267 := Tryd.func77.trans (congrArg some (by kernel_rfl))
  f314 := Tryd.func86.trans (congrArg some (by kernel_rfl))
  t3 := Tryd.underlying3
  a3 := Tryd.isAgg3
  z3 := Tryd.sizeOf3
  v3 := Tryd.zeroValue3
  t4 := Tryd.underlying4
  a4 := Tryd.isAgg4
  z4 := Tryd.sizeOf4
  v4 := Tryd.zeroValue4
  t5 := Tryd.underlying5
  a5 := Tryd.isAgg5
  z5 := Tryd.sizeOf5
  v5 := Tryd.zeroValue5
  t9 := Tryd.underlying9
  a9 := Tryd.isAgg9
  z9 := Tryd.sizeOf9
  v9 := Tryd.zeroValue9
  t46 := Tryd.underlying111
  a46 := Tryd.isAgg111
  z46 := Tryd.sizeOf111
  v46 := Tryd.zeroValue111
  t51 := Tryd.underlying43
  a51 := Tryd.isAgg43
  z51 := Tryd.sizeOf43
  v51 := Tryd.zeroValue43
  t146 := Tryd.underlying120
  a146 := Tryd.isAgg120
  z146 := Tryd.sizeOf120
  v146 := Tryd.zeroValue120
  g1 := by kernel_rfl }
open Go.RowKit Go.Lib in
/-- strings.Index: "Index returns the index of the first instance of substr in s, or -1 if substr is not present in s.": AT A substr OF ONE BYTE c: IT RETURNS 'Lib.indexByte s c'; the world is as it was. (LAID: no walk: one application.) -/
theorem Tryd.strings_Index_one (s : ByteArray) (c : UInt8) (w : World) :
    Calls Tryd.prog 56 #[.string s, .string ⟨#[c]⟩] w fun e w' => e = .returned (.int .i64 (Lib.indexByte s.data.toList c)) ∧ w' = w := Any.strings_Index_one Tryd.lays143 s c w
open Go.RowKit Go.Lib in
/-- strings.Index: "Index returns the index of the first instance of substr in s, or -1 if substr is not present in s.": IT RETURNS 'Lib.index s substr'; the world is as it was. (LAID: no walk: one application.) -/
theorem Tryd.strings_Index (s sub : ByteArray) (m : Int) (w : World) (hs : s.size < 4294967281) (hm : w.cell? ⟨0, 0, none⟩ = some (.int .i64 m)) :
    Calls Tryd.prog 56 #[.string s, .string sub] w fun e w' => e = .returned (.int .i64 (Lib.index s.data.toList sub.data.toList)) ∧ w' = w := Any.strings_Index Tryd.lays143 s sub m w hs hm
def Tryd.lays138_ren : Go.Shelf.Ren := ⟨fun | 138 => 55 | 195 => 62 | 218 => 63 | 143 => 56 | 219 => 64 | 217 => 74 | 225 => 75 | 224 => 76 | 267 => 77 | 266 => 85 | 314 => 86 | n => n, fun | 9 => 9 | 3 => 3 | 4 => 4 | 5 => 5 | 0 => 0 | 46 => 111 | 146 => 120 | 51 => 43 | n => n, fun | 1 => 0 | n => n⟩
theorem Tryd.lays138 : Go.Proofs.Lays.n138 Tryd.prog Tryd.lays138_ren := {
  mixed := by kernel_rfl
  f138 := Tryd.func55.trans (congrArg some (by kernel_rfl))
  f143 := Tryd.func56.trans (congrArg some (by kernel_rfl))
  f195 := Tryd.func62.trans (congrArg some (by kernel_rfl))
  f217 := Tryd.func74.trans (congrArg some (by kernel_rfl))
  f218 := Tryd.func63.trans (congrArg some (by kernel_rfl))
  f219 := Tryd.func64.trans (congrArg some (by kernel_rfl))
  f224 := Tryd.func76.trans (congrArg some (by kernel_rfl))
  f225 := Tryd.func75.trans (congrArg some (by kernel_rfl))
  f266 := Tryd.func85.trans (congrArg some (by kernel_rfl))
  f267 := Tryd.func77.trans (congrArg some (by kernel_rfl))
  f314 := Tryd.func86.trans (congrArg some (by kernel_rfl))
  t0 := Tryd.underlying0
  a0 := Tryd.isAgg0
  z0 := Tryd.sizeOf0
  v0 := Tryd.zeroValue0
  t3 := Tryd.underlying3
  a3 := Tryd.isAgg3
  z3 := Tryd.sizeOf3
  v3 := Tryd.zeroValue3
  t4 := Tryd.underlying4
  a4 := Tryd.isAgg4
  z4 := Tryd.sizeOf4
  v4 := Tryd.zeroValue4
  t5 := Tryd.underlying5
  a5 := Tryd.isAgg5
  z5 := Tryd.sizeOf5
  v5 := Tryd.zeroValue5
  t9 := Tryd.underlying9
  a9 := Tryd.isAgg9
  z9 := Tryd.sizeOf9
  v9 := Tryd.zeroValue9
  t46 := Tryd.underlying111
  a46 := Tryd.isAgg111
  z46 := Tryd.sizeOf111
  v46 := Tryd.zeroValue111
  t51 := Tryd.underlying43
  a51 := Tryd.isAgg43
  z51 := Tryd.sizeOf43
  v51 := Tryd.zeroValue43
  t146 := Tryd.underlying120
  a146 := Tryd.isAgg120
  z146 := Tryd.sizeOf120
  v146 := Tryd.zeroValue120
  g1 := by kernel_rfl }
open Go.RowKit Go.Lib in
/-- strings.Count AT A substr OF ONE BYTE ('hp'): "Count counts the number of non-overlapping instances of substr in s.": IT RETURNS 'Lib.countByte s (that byte)'; the world is as it was. ✋ NO CONTRACT HERE YET at an empty substr (utf8.RuneCountInString) or at a longer one (a loop over strings.Index). (LAID: no walk: one application.) -/
theorem Tryd.strings_Count_one (s : ByteArray) (c : UInt8) (w : World) :
    Calls Tryd.prog 55 #[.string s, .string ⟨#[c]⟩] w fun e w' => e = .returned (.int .i64 (Lib.countByte s.data.toList c)) ∧ w' = w := Any.strings_Count_one Tryd.lays138 s c w
open Go.RowKit Go.Lib in
/-- strings.Count AT A substr OF TWO BYTES OR MORE: "Count counts the number of non-overlapping instances of substr in s.": IT RETURNS 'Lib.count s substr'; the world is as it was. (LAID: no walk: one application.) -/
theorem Tryd.strings_Count (s sub : ByteArray) (m : Int) (w : World) (hs : s.size < 4294967281) (hm : w.cell? ⟨0, 0, none⟩ = some (.int .i64 m)) (h2 : 2 ≤ sub.size) :
    Calls Tryd.prog 55 #[.string s, .string sub] w fun e w' => e = .returned (.int .i64 (Lib.countB s sub)) ∧ w' = w := Any.strings_Count Tryd.lays138 s sub m w hs hm h2
def Tryd.laysM219_ren : Go.Shelf.Ren := ⟨fun | 219 => 64 | 217 => 74 | 225 => 75 | 224 => 76 | 267 => 77 | 266 => 85 | 314 => 86 | n => n, fun | 9 => 9 | 3 => 3 | 4 => 4 | 5 => 5 | 46 => 111 | 146 => 120 | 51 => 43 | n => n, fun | 1 => 0 | n => n⟩
theorem Tryd.laysM219 : Go.Proofs.LaysM.n219 Tryd.prog Tryd.laysM219_ren := {
  mixed := by kernel_rfl
  f217 := Tryd.func74.trans (congrArg some (by kernel_rfl))
  f219 := Tryd.func64.trans (congrArg some (by kernel_rfl))
  f224 := Tryd.func76.trans (congrArg some (by kernel_rfl))
  f225 := Tryd.func75.trans (congrArg some (by kernel_rfl))
  f266 := Tryd.func85.trans (congrArg some (by kernel_rfl))
  f267 := Tryd.func77.trans (congrArg some (by kernel_rfl))
  f314 := Tryd.func86.trans (congrArg some (by kernel_rfl))
  t3 := Tryd.underlying3
  a3 := Tryd.isAgg3
  z3 := Tryd.sizeOf3
  v3 := Tryd.zeroValue3
  t4 := Tryd.underlying4
  a4 := Tryd.isAgg4
  z4 := Tryd.sizeOf4
  v4 := Tryd.zeroValue4
  t5 := Tryd.underlying5
  a5 := Tryd.isAgg5
  z5 := Tryd.sizeOf5
  v5 := Tryd.zeroValue5
  t9 := Tryd.underlying9
  a9 := Tryd.isAgg9
  z9 := Tryd.sizeOf9
  v9 := Tryd.zeroValue9
  t46 := Tryd.underlying111
  a46 := Tryd.isAgg111
  z46 := Tryd.sizeOf111
  v46 := Tryd.zeroValue111
  t51 := Tryd.underlying43
  a51 := Tryd.isAgg43
  z51 := Tryd.sizeOf43
  v51 := Tryd.zeroValue43
  t146 := Tryd.underlying120
  a146 := Tryd.isAgg120
  z146 := Tryd.sizeOf120
  v146 := Tryd.zeroValue120
  g1 := by kernel_rfl
  i3 := by kernel_rfl
  i4 := by kernel_rfl
  i5 := by kernel_rfl
  i9 := by kernel_rfl
  i46 := by kernel_rfl
  i51 := by kernel_rfl
  i146 := by kernel_rfl
  m1 := by kernel_rfl
  s1_3 := fun w h => Go.Proofs.cell_of_shapedOpen_int (zero := #[.int .i64 0]) (t := 3) h (of_decide_eq_true (by kernel_rfl)) (by kernel_rfl) rfl (by kernel_rfl) (by kernel_rfl) Tryd.underlying3 }
open Go.RowKit Go.Lib in
theorem Tryd.stringslite_Index_shaped (s sub : ByteArray) (w : World) (h : w.ShapedOpen Tryd.prog) (hs : s.size < 4294967281) :
    Calls Tryd.prog 64 #[.string s, .string sub] w fun e w' => e = .returned (.int .i64 (Lib.index s.data.toList sub.data.toList)) ∧ w' = w := Any.stringslite_Index_shaped Tryd.laysM219 s sub w h hs
def Tryd.laysM143_ren : Go.Shelf.Ren := ⟨fun | 143 => 56 | 219 => 64 | 217 => 74 | 225 => 75 | 224 => 76 | 267 => 77 | 266 => 85 | 314 => 86 | n => n, fun | 9 => 9 | 3 => 3 | 4 => 4 | 5 => 5 | 46 => 111 | 146 => 120 | 51 => 43 | n => n, fun | 1 => 0 | n => n⟩
theorem Tryd.laysM143 : Go.Proofs.LaysM.n143 Tryd.prog Tryd.laysM143_ren := {
  mixed := by kernel_rfl
  f143 := Tryd.func56.trans (congrArg some (by kernel_rfl))
  f217 := Tryd.func74.trans (congrArg some (by kernel_rfl))
  f219 := Tryd.func64.trans (congrArg some (by kernel_rfl))
  f224 := Tryd.func76.trans (congrArg some (by kernel_rfl))
  f225 := Tryd.func75.trans (congrArg some (by kernel_rfl))
  f266 := Tryd.func85.trans (congrArg some (by kernel_rfl))
  f267 := Tryd.func77.trans (congrArg some (by kernel_rfl))
  f314 := Tryd.func86.trans (congrArg some (by kernel_rfl))
  t3 := Tryd.underlying3
  a3 := Tryd.isAgg3
  z3 := Tryd.sizeOf3
  v3 := Tryd.zeroValue3
  t4 := Tryd.underlying4
  a4 := Tryd.isAgg4
  z4 := Tryd.sizeOf4
  v4 := Tryd.zeroValue4
  t5 := Tryd.underlying5
  a5 := Tryd.isAgg5
  z5 := Tryd.sizeOf5
  v5 := Tryd.zeroValue5
  t9 := Tryd.underlying9
  a9 := Tryd.isAgg9
  z9 := Tryd.sizeOf9
  v9 := Tryd.zeroValue9
  t46 := Tryd.underlying111
  a46 := Tryd.isAgg111
  z46 := Tryd.sizeOf111
  v46 := Tryd.zeroValue111
  t51 := Tryd.underlying43
  a51 := Tryd.isAgg43
  z51 := Tryd.sizeOf43
  v51 := Tryd.zeroValue43
  t146 := Tryd.underlying120
  a146 := Tryd.isAgg120
  z146 := Tryd.sizeOf120
  v146 := Tryd.zeroValue120
  g1 := by kernel_rfl
  i3 := by kernel_rfl
  i4 := by kernel_rfl
  i5 := by kernel_rfl
  i9 := by kernel_rfl
  i46 := by kernel_rfl
  i51 := by kernel_rfl
  i146 := by kernel_rfl
  m1 := by kernel_rfl
  s1_3 := fun w h => Go.Proofs.cell_of_shapedOpen_int (zero := #[.int .i64 0]) (t := 3) h (of_decide_eq_true (by kernel_rfl)) (by kernel_rfl) rfl (by kernel_rfl) (by kernel_rfl) Tryd.underlying3 }
open Go.RowKit Go.Lib in
theorem Tryd.strings_Index_shaped (s sub : ByteArray) (w : World) (h : w.ShapedOpen Tryd.prog) (hs : s.size < 4294967281) :
    Calls Tryd.prog 56 #[.string s, .string sub] w fun e w' => e = .returned (.int .i64 (Lib.index s.data.toList sub.data.toList)) ∧ w' = w := Any.strings_Index_shaped Tryd.laysM143 s sub w h hs
def Tryd.laysM138_ren : Go.Shelf.Ren := ⟨fun | 138 => 55 | 195 => 62 | 218 => 63 | 143 => 56 | 219 => 64 | 217 => 74 | 225 => 75 | 224 => 76 | 267 => 77 | 266 => 85 | 314 => 86 | n => n, fun | 9 => 9 | 3 => 3 | 4 => 4 | 5 => 5 | 0 => 0 | 46 => 111 | 146 => 120 | 51 => 43 | n => n, fun | 1 => 0 | n => n⟩
theorem Tryd.laysM138 : Go.Proofs.LaysM.n138 Tryd.prog Tryd.laysM138_ren := {
  mixed := by kernel_rfl
  f138 := Tryd.func55.trans (congrArg some (by kernel_rfl))
  f143 := Tryd.func56.trans (congrArg some (by kernel_rfl))
  f195 := Tryd.func62.trans (congrArg some (by kernel_rfl))
  f217 := Tryd.func74.trans (congrArg some (by kernel_rfl))
  f218 := Tryd.func63.trans (congrArg some (by kernel_rfl))
  f219 := Tryd.func64.trans (congrArg some (by kernel_rfl))
  f224 := Tryd.func76.trans (congrArg some (by kernel_rfl))
  f225 := Tryd.func75.trans (congrArg some (by kernel_rfl))
  f266 := Tryd.func85.trans (congrArg some (by kernel_rfl))
  f267 := Tryd.func77.trans (congrArg some (by kernel_rfl))
  f314 := Tryd.func86.trans (congrArg some (by kernel_rfl))
  t0 := Tryd.underlying0
  a0 := Tryd.isAgg0
  z0 := Tryd.sizeOf0
  v0 := Tryd.zeroValue0
  t3 := Tryd.underlying3
  a3 := Tryd.isAgg3
  z3 := Tryd.sizeOf3
  v3 := Tryd.zeroValue3
  t4 := Tryd.underlying4
  a4 := Tryd.isAgg4
  z4 := Tryd.sizeOf4
  v4 := Tryd.zeroValue4
  t5 := Tryd.underlying5
  a5 := Tryd.isAgg5
  z5 := Tryd.sizeOf5
  v5 := Tryd.zeroValue5
  t9 := Tryd.underlying9
  a9 := Tryd.isAgg9
  z9 := Tryd.sizeOf9
  v9 := Tryd.zeroValue9
  t46 := Tryd.underlying111
  a46 := Tryd.isAgg111
  z46 := Tryd.sizeOf111
  v46 := Tryd.zeroValue111
  t51 := Tryd.underlying43
  a51 := Tryd.isAgg43
  z51 := Tryd.sizeOf43
  v51 := Tryd.zeroValue43
  t146 := Tryd.underlying120
  a146 := Tryd.isAgg120
  z146 := Tryd.sizeOf120
  v146 := Tryd.zeroValue120
  g1 := by kernel_rfl
  i0 := by kernel_rfl
  i3 := by kernel_rfl
  i4 := by kernel_rfl
  i5 := by kernel_rfl
  i9 := by kernel_rfl
  i46 := by kernel_rfl
  i51 := by kernel_rfl
  i146 := by kernel_rfl
  m1 := by kernel_rfl
  s1_3 := fun w h => Go.Proofs.cell_of_shapedOpen_int (zero := #[.int .i64 0]) (t := 3) h (of_decide_eq_true (by kernel_rfl)) (by kernel_rfl) rfl (by kernel_rfl) (by kernel_rfl) Tryd.underlying3 }
open Go.RowKit Go.Lib in
theorem Tryd.strings_Count_shaped (s sub : ByteArray) (w : World) (h : w.ShapedOpen Tryd.prog) (hs : s.size < 4294967281) (h2 : 2 ≤ sub.size) :
    Calls Tryd.prog 55 #[.string s, .string sub] w fun e w' => e = .returned (.int .i64 (Lib.countB s sub)) ∧ w' = w := Any.strings_Count_shaped Tryd.laysM138 s sub w h hs h2
open Go.RowKit Go.Lib in
/-- strings.Count at whatever sep that is not empty: the two roads under one statement. (LAID: no walk: one application.) -/
theorem Tryd.strings_Count_any (s sep : ByteArray) (m : Int) (w : World) (hs : s.size < 4294967281) (hm : w.cell? ⟨0, 0, none⟩ = some (.int .i64 m)) (h1 : 1 ≤ sep.size) :
    Calls Tryd.prog 55 #[.string s, .string sep] w fun e w' => e = .returned (.int .i64 (Lib.countB s sep)) ∧ w' = w := Any.strings_Count_any Tryd.lays138 s sep m w hs hm h1
def Tryd.lays154_ren : Go.Shelf.Ren := ⟨fun | 154 => 45 | 138 => 55 | 165 => 32 | 143 => 56 | 166 => 33 | 197 => 57 | 169 => 34 | 195 => 62 | 218 => 63 | 240 => 43 | 241 => 44 | 219 => 64 | 260 => 65 | 276 => 53 | 277 => 54 | 217 => 74 | 225 => 75 | 224 => 76 | 267 => 77 | 266 => 85 | 314 => 86 | n => n, fun | 9 => 9 | 3 => 3 | 4 => 4 | 72 => 74 | 0 => 0 | 76 => 78 | 105 => 97 | 21 => 21 | 5 => 5 | 70 => 72 | 20 => 20 | 37 => 54 | 75 => 77 | 127 => 87 | 164 => 93 | 46 => 111 | 119 => 112 | 139 => 115 | 138 => 114 | 146 => 120 | 51 => 43 | 80 => 80 | n => n, fun | 1 => 0 | 3 => 1 | 4 => 2 | n => n⟩
theorem Tryd.lays154 : Go.Proofs.Lays.n154 Tryd.prog Tryd.lays154_ren := {
  mixed := by kernel_rfl
  f138 := Tryd.func55.trans (congrArg some (by kernel_rfl))
  f143 := Tryd.func56.trans (congrArg some (by kernel_rfl))
  f154 := Tryd.func45.trans (congrArg some (by kernel_rfl))
  f165 := Tryd.func32.trans (congrArg some (by kernel_rfl))
  f166 := Tryd.func33.trans (congrArg some (by kernel_rfl))
  f169 := Tryd.func34.trans (congrArg some (by kernel_rfl))
  f195 := Tryd.func62.trans (congrArg some (by kernel_rfl))
  f197 := Tryd.func57.trans (congrArg some (by kernel_rfl))
  f217 := Tryd.func74.trans (congrArg some (by kernel_rfl))
  f218 := Tryd.func63.trans (congrArg some (by kernel_rfl))
  f219 := Tryd.func64.trans (congrArg some (by kernel_rfl))
  f224 := Tryd.func76.trans (congrArg some (by kernel_rfl))
  f225 := Tryd.func75.trans (congrArg some (by kernel_rfl))
  f240 := Tryd.func43.trans (congrArg some (by kernel_rfl))
  f241 := Tryd.func44.trans (congrArg some (by kernel_rfl))
  f260 := Tryd.func65.trans (congrArg some (by kernel_rfl))
  f266 := Tryd.func85.trans (congrArg some (by kernel_rfl))
  f267 := Tryd.func77.trans (congrArg some (by kernel_rfl))
  f276 := Tryd.func53.trans (congrArg some (by kernel_rfl))
  f277 := Tryd.func54.trans (congrArg some (by kernel_rfl))
  f314 := Tryd.func86.trans (congrArg some (by kernel_rfl))
  t0 := Tryd.underlying0
  a0 := Tryd.isAgg0
  z0 := Tryd.sizeOf0
  v0 := Tryd.zeroValue0
  t3 := Tryd.underlying3
  a3 := Tryd.isAgg3
  z3 := Tryd.sizeOf3
  v3 := Tryd.zeroValue3
  t4 := Tryd.underlying4
  a4 := Tryd.isAgg4
  z4 := Tryd.sizeOf4
  v4 := Tryd.zeroValue4
  t5 := Tryd.underlying5
  a5 := Tryd.isAgg5
  z5 := Tryd.sizeOf5
  v5 := Tryd.zeroValue5
  t9 := Tryd.underlying9
  a9 := Tryd.isAgg9
  z9 := Tryd.sizeOf9
  v9 := Tryd.zeroValue9
  t20 := Tryd.underlying20
  a20 := Tryd.isAgg20
  z20 := Tryd.sizeOf20
  v20 := Tryd.zeroValue20
  t21 := Tryd.underlying21
  a21 := Tryd.isAgg21
  z21 := Tryd.sizeOf21
  v21 := Tryd.zeroValue21
  t37 := Tryd.underlying54
  a37 := Tryd.isAgg54
  z37 := Tryd.sizeOf54
  v37 := Tryd.zeroValue54
  t46 := Tryd.underlying111
  a46 := Tryd.isAgg111
  z46 := Tryd.sizeOf111
  v46 := Tryd.zeroValue111
  t51 := Tryd.underlying43
  a51 := Tryd.isAgg43
  z51 := Tryd.sizeOf43
  v51 := Tryd.zeroValue43
  t70 := Tryd.underlying72
  a70 := Tryd.isAgg72
  z70 := Tryd.sizeOf72
  v70 := Tryd.zeroValue72
  t72 := Tryd.underlying74
  a72 := Tryd.isAgg74
  z72 := Tryd.sizeOf74
  v72 := Tryd.zeroValue74
  t75 := Tryd.underlying77
  a75 := Tryd.isAgg77
  z75 := Tryd.sizeOf77
  v75 := Tryd.zeroValue77
  t76 := Tryd.underlying78
  a76 := Tryd.isAgg78
  z76 := Tryd.sizeOf78
  v76 := Tryd.zeroValue78
  t105 := Tryd.underlying97
  a105 := Tryd.isAgg97
  z105 := Tryd.sizeOf97
  v105 := Tryd.zeroValue97
  t119 := Tryd.underlying112
  a119 := Tryd.isAgg112
  z119 := Tryd.sizeOf112
  t127 := Tryd.underlying87
  a127 := Tryd.isAgg87
  z127 := Tryd.sizeOf87
  v127 := Tryd.zeroValue87
  t138 := Tryd.underlying114
  a138 := Tryd.isAgg114
  z138 := Tryd.sizeOf114
  v138 := Tryd.zeroValue114
  t139 := Tryd.underlying115
  a139 := Tryd.isAgg115
  z139 := Tryd.sizeOf115
  v139 := Tryd.zeroValue115
  t146 := Tryd.underlying120
  a146 := Tryd.isAgg120
  z146 := Tryd.sizeOf120
  v146 := Tryd.zeroValue120
  t164 := Tryd.underlying93
  a164 := Tryd.isAgg93
  z164 := Tryd.sizeOf93
  v164 := Tryd.zeroValue93
  g1 := by kernel_rfl
  g3 := by kernel_rfl
  g4 := by kernel_rfl }
theorem Tryd.Builder_Extra_154 : Builder.Extra Tryd.prog Tryd.lays154_ren := {
  sizeBuilder := by kernel_rfl
  liesBuilder := by kernel_rfl
  t5 := Tryd.underlying5
  a5 := Tryd.isAgg5
  z5 := Tryd.sizeOf5
  v5 := Tryd.zeroValue5
  infoByte := by kernel_rfl
  cellsByte := by kernel_rfl
  sizeByte := by kernel_rfl
  neB5 := by decide }
open Go.RowKit Go.Lib in
/-- WHERE SOMETHING IS REPLACED: old is not new, n is not 0, there is an instance. (LAID: no walk: one application.) -/
theorem Tryd.strings_Replace_some (s old new : ByteArray) (n : Int) (m : Int) (w : World) (hs : s.size < 4294967281) (hm : w.cell? ⟨0, 0, none⟩ = some (.int .i64 m)) (h1 : 1 ≤ old.size) (hne : old ≠ new) (hn0 : n ≠ 0) (hc0 : Lib.countB s old ≠ 0) (hlen : s.size + Lib.countB s old * new.size ≤ 140737488355328) :
    Calls Tryd.prog 45 #[.string s, .string old, .string new, .int .i64 n] w fun e w' =>
      e = .returned (.string ⟨(Lib.replaceK old.data.toList new.data.toList (Lib.replaceNum s.data.toList old.data.toList n) s.data.toList).toArray⟩) ∧ Below w.heap.size w w' := Any.strings_Replace_some Tryd.lays154 Tryd.Builder_Extra_154 s old new n m w hs hm h1 hne hn0 hc0 hlen
open Go.RowKit Go.Lib in
/-- 'if old == new || n == 0 { return s }'. (LAID: no walk: one application.) -/
theorem Tryd.strings_Replace_none (s old new : ByteArray) (n : Int) (w : World) (h : old = new ∨ n = 0) :
    Calls Tryd.prog 45 #[.string s, .string old, .string new, .int .i64 n] w fun e w' => e = .returned (.string s) ∧ w' = w := Any.strings_Replace_none Tryd.lays154 s old new n w h
open Go.RowKit Go.Lib in
/-- 'if m := Count(s, old); m == 0 { return s }'. (LAID: no walk: one application.) -/
theorem Tryd.strings_Replace_absent (s old new : ByteArray) (n : Int) (m : Int) (w : World) (hs : s.size < 4294967281) (hm : w.cell? ⟨0, 0, none⟩ = some (.int .i64 m)) (h1 : 1 ≤ old.size) (hne : old ≠ new) (hn0 : n ≠ 0) (hc0 : Lib.countB s old = 0) :
    Calls Tryd.prog 45 #[.string s, .string old, .string new, .int .i64 n] w fun e w' => e = .returned (.string s) ∧ w' = w := Any.strings_Replace_absent Tryd.lays154 s old new n m w hs hm h1 hne hn0 hc0
open Go.RowKit Go.Lib in
/-- strings.Replace: "Replace returns a copy of the string s with the first n non-overlapping instances of old replaced by new. .. If n < 0, there is no limit on the number of replacements.": AT AN old THAT IS NOT EMPTY: IT RETURNS 'Lib.replace s old new n'. Below the heap's end the world is as it was. IT ASKS, as strings.Index's contract: 'len(s) < 4294967281', 'hm'; and that what comes out has room: 'len(s) + Count(s, old) * len(new) ≤ 2^47'. (LAID: no walk: one application.) -/
theorem Tryd.strings_Replace (s old new : ByteArray) (n : Int) (m : Int) (w : World) (hs : s.size < 4294967281) (hm : w.cell? ⟨0, 0, none⟩ = some (.int .i64 m)) (h1 : 1 ≤ old.size) (hlen : s.size + Lib.countB s old * new.size ≤ 140737488355328) :
    Calls Tryd.prog 45 #[.string s, .string old, .string new, .int .i64 n] w fun e w' =>
      e = .returned (.string ⟨(Lib.replace s.data.toList old.data.toList new.data.toList n).toArray⟩) ∧ Below w.heap.size w w' := Any.strings_Replace Tryd.lays154 Tryd.Builder_Extra_154 s old new n m w hs hm h1 hlen
def Tryd.lays155_ren : Go.Shelf.Ren := ⟨fun | 155 => 35 | 154 => 45 | 138 => 55 | 165 => 32 | 143 => 56 | 166 => 33 | 197 => 57 | 169 => 34 | 195 => 62 | 218 => 63 | 240 => 43 | 241 => 44 | 219 => 64 | 260 => 65 | 276 => 53 | 277 => 54 | 217 => 74 | 225 => 75 | 224 => 76 | 267 => 77 | 266 => 85 | 314 => 86 | n => n, fun | 9 => 9 | 3 => 3 | 4 => 4 | 72 => 74 | 0 => 0 | 76 => 78 | 105 => 97 | 21 => 21 | 5 => 5 | 70 => 72 | 20 => 20 | 37 => 54 | 75 => 77 | 127 => 87 | 164 => 93 | 46 => 111 | 119 => 112 | 139 => 115 | 138 => 114 | 146 => 120 | 51 => 43 | 80 => 80 | n => n, fun | 1 => 0 | 3 => 1 | 4 => 2 | n => n⟩
theorem Tryd.lays155 : Go.Proofs.Lays.n155 Tryd.prog Tryd.lays155_ren := {
  mixed := by kernel_rfl
  f138 := Tryd.func55.trans (congrArg some (by kernel_rfl))
  f143 := Tryd.func56.trans (congrArg some (by kernel_rfl))
  f154 := Tryd.func45.trans (congrArg some (by kernel_rfl))
  f155 := Tryd.func35.trans (congrArg some (by kernel_rfl))
  f165 := Tryd.func32.trans (congrArg some (by kernel_rfl))
  f166 := Tryd.func33.trans (congrArg some (by kernel_rfl))
  f169 := Tryd.func34.trans (congrArg some (by kernel_rfl))
  f195 := Tryd.func62.trans (congrArg some (by kernel_rfl))
  f197 := Tryd.func57.trans (congrArg some (by kernel_rfl))
  f217 := Tryd.func74.trans (congrArg some (by kernel_rfl))
  f218 := Tryd.func63.trans (congrArg some (by kernel_rfl))
  f219 := Tryd.func64.trans (congrArg some (by kernel_rfl))
  f224 := Tryd.func76.trans (congrArg some (by kernel_rfl))
  f225 := Tryd.func75.trans (congrArg some (by kernel_rfl))
  f240 := Tryd.func43.trans (congrArg some (by kernel_rfl))
  f241 := Tryd.func44.trans (congrArg some (by kernel_rfl))
  f260 := Tryd.func65.trans (congrArg some (by kernel_rfl))
  f266 := Tryd.func85.trans (congrArg some (by kernel_rfl))
  f267 := Tryd.func77.trans (congrArg some (by kernel_rfl))
  f276 := Tryd.func53.trans (congrArg some (by kernel_rfl))
  f277 := Tryd.func54.trans (congrArg some (by kernel_rfl))
  f314 := Tryd.func86.trans (congrArg some (by kernel_rfl))
  t0 := Tryd.underlying0
  a0 := Tryd.isAgg0
  z0 := Tryd.sizeOf0
  v0 := Tryd.zeroValue0
  t3 := Tryd.underlying3
  a3 := Tryd.isAgg3
  z3 := Tryd.sizeOf3
  v3 := Tryd.zeroValue3
  t4 := Tryd.underlying4
  a4 := Tryd.isAgg4
  z4 := Tryd.sizeOf4
  v4 := Tryd.zeroValue4
  t5 := Tryd.underlying5
  a5 := Tryd.isAgg5
  z5 := Tryd.sizeOf5
  v5 := Tryd.zeroValue5
  t9 := Tryd.underlying9
  a9 := Tryd.isAgg9
  z9 := Tryd.sizeOf9
  v9 := Tryd.zeroValue9
  t20 := Tryd.underlying20
  a20 := Tryd.isAgg20
  z20 := Tryd.sizeOf20
  v20 := Tryd.zeroValue20
  t21 := Tryd.underlying21
  a21 := Tryd.isAgg21
  z21 := Tryd.sizeOf21
  v21 := Tryd.zeroValue21
  t37 := Tryd.underlying54
  a37 := Tryd.isAgg54
  z37 := Tryd.sizeOf54
  v37 := Tryd.zeroValue54
  t46 := Tryd.underlying111
  a46 := Tryd.isAgg111
  z46 := Tryd.sizeOf111
  v46 := Tryd.zeroValue111
  t51 := Tryd.underlying43
  a51 := Tryd.isAgg43
  z51 := Tryd.sizeOf43
  v51 := Tryd.zeroValue43
  t70 := Tryd.underlying72
  a70 := Tryd.isAgg72
  z70 := Tryd.sizeOf72
  v70 := Tryd.zeroValue72
  t72 := Tryd.underlying74
  a72 := Tryd.isAgg74
  z72 := Tryd.sizeOf74
  v72 := Tryd.zeroValue74
  t75 := Tryd.underlying77
  a75 := Tryd.isAgg77
  z75 := Tryd.sizeOf77
  v75 := Tryd.zeroValue77
  t76 := Tryd.underlying78
  a76 := Tryd.isAgg78
  z76 := Tryd.sizeOf78
  v76 := Tryd.zeroValue78
  t105 := Tryd.underlying97
  a105 := Tryd.isAgg97
  z105 := Tryd.sizeOf97
  v105 := Tryd.zeroValue97
  t119 := Tryd.underlying112
  a119 := Tryd.isAgg112
  z119 := Tryd.sizeOf112
  t127 := Tryd.underlying87
  a127 := Tryd.isAgg87
  z127 := Tryd.sizeOf87
  v127 := Tryd.zeroValue87
  t138 := Tryd.underlying114
  a138 := Tryd.isAgg114
  z138 := Tryd.sizeOf114
  v138 := Tryd.zeroValue114
  t139 := Tryd.underlying115
  a139 := Tryd.isAgg115
  z139 := Tryd.sizeOf115
  v139 := Tryd.zeroValue115
  t146 := Tryd.underlying120
  a146 := Tryd.isAgg120
  z146 := Tryd.sizeOf120
  v146 := Tryd.zeroValue120
  t164 := Tryd.underlying93
  a164 := Tryd.isAgg93
  z164 := Tryd.sizeOf93
  v164 := Tryd.zeroValue93
  g1 := by kernel_rfl
  g3 := by kernel_rfl
  g4 := by kernel_rfl }
theorem Tryd.Builder_Extra_155 : Builder.Extra Tryd.prog Tryd.lays155_ren := {
  sizeBuilder := by kernel_rfl
  liesBuilder := by kernel_rfl
  t5 := Tryd.underlying5
  a5 := Tryd.isAgg5
  z5 := Tryd.sizeOf5
  v5 := Tryd.zeroValue5
  infoByte := by kernel_rfl
  cellsByte := by kernel_rfl
  sizeByte := by kernel_rfl
  neB5 := by decide }
open Go.RowKit Go.Lib in
/-- strings.ReplaceAll: "ReplaceAll returns a copy of the string s with all non-overlapping instances of old replaced by new.": AT AN old THAT IS NOT EMPTY: 'Lib.replaceAll s old new'. (LAID: no walk: one application.) -/
theorem Tryd.strings_ReplaceAll (s old new : ByteArray) (m : Int) (w : World) (hs : s.size < 4294967281) (hm : w.cell? ⟨0, 0, none⟩ = some (.int .i64 m)) (h1 : 1 ≤ old.size) (hlen : s.size + Lib.countB s old * new.size ≤ 140737488355328) :
    Calls Tryd.prog 35 #[.string s, .string old, .string new] w fun e w' =>
      e = .returned (.string ⟨(Lib.replaceAll s.data.toList old.data.toList new.data.toList).toArray⟩) ∧ Below w.heap.size w w' := Any.strings_ReplaceAll Tryd.lays155 Tryd.Builder_Extra_155 s old new m w hs hm h1 hlen
def Tryd.laysM154_ren : Go.Shelf.Ren := ⟨fun | 154 => 45 | 138 => 55 | 165 => 32 | 143 => 56 | 166 => 33 | 197 => 57 | 169 => 34 | 195 => 62 | 218 => 63 | 240 => 43 | 241 => 44 | 219 => 64 | 260 => 65 | 276 => 53 | 277 => 54 | 217 => 74 | 225 => 75 | 224 => 76 | 267 => 77 | 266 => 85 | 314 => 86 | n => n, fun | 9 => 9 | 3 => 3 | 4 => 4 | 72 => 74 | 0 => 0 | 76 => 78 | 105 => 97 | 21 => 21 | 5 => 5 | 70 => 72 | 20 => 20 | 37 => 54 | 75 => 77 | 127 => 87 | 164 => 93 | 46 => 111 | 119 => 112 | 139 => 115 | 138 => 114 | 146 => 120 | 51 => 43 | 80 => 80 | n => n, fun | 1 => 0 | 3 => 1 | 4 => 2 | n => n⟩
theorem Tryd.laysM154 : Go.Proofs.LaysM.n154 Tryd.prog Tryd.laysM154_ren := {
  mixed := by kernel_rfl
  f138 := Tryd.func55.trans (congrArg some (by kernel_rfl))
  f143 := Tryd.func56.trans (congrArg some (by kernel_rfl))
  f154 := Tryd.func45.trans (congrArg some (by kernel_rfl))
  f165 := Tryd.func32.trans (congrArg some (by kernel_rfl))
  f166 := Tryd.func33.trans (congrArg some (by kernel_rfl))
  f169 := Tryd.func34.trans (congrArg some (by kernel_rfl))
  f195 := Tryd.func62.trans (congrArg some (by kernel_rfl))
  f197 := Tryd.func57.trans (congrArg some (by kernel_rfl))
  f217 := Tryd.func74.trans (congrArg some (by kernel_rfl))
  f218 := Tryd.func63.trans (congrArg some (by kernel_rfl))
  f219 := Tryd.func64.trans (congrArg some (by kernel_rfl))
  f224 := Tryd.func76.trans (congrArg some (by kernel_rfl))
  f225 := Tryd.func75.trans (congrArg some (by kernel_rfl))
  f240 := Tryd.func43.trans (congrArg some (by kernel_rfl))
  f241 := Tryd.func44.trans (congrArg some (by kernel_rfl))
  f260 := Tryd.func65.trans (congrArg some (by kernel_rfl))
  f266 := Tryd.func85.trans (congrArg some (by kernel_rfl))
  f267 := Tryd.func77.trans (congrArg some (by kernel_rfl))
  f276 := Tryd.func53.trans (congrArg some (by kernel_rfl))
  f277 := Tryd.func54.trans (congrArg some (by kernel_rfl))
  f314 := Tryd.func86.trans (congrArg some (by kernel_rfl))
  t0 := Tryd.underlying0
  a0 := Tryd.isAgg0
  z0 := Tryd.sizeOf0
  v0 := Tryd.zeroValue0
  t3 := Tryd.underlying3
  a3 := Tryd.isAgg3
  z3 := Tryd.sizeOf3
  v3 := Tryd.zeroValue3
  t4 := Tryd.underlying4
  a4 := Tryd.isAgg4
  z4 := Tryd.sizeOf4
  v4 := Tryd.zeroValue4
  t5 := Tryd.underlying5
  a5 := Tryd.isAgg5
  z5 := Tryd.sizeOf5
  v5 := Tryd.zeroValue5
  t9 := Tryd.underlying9
  a9 := Tryd.isAgg9
  z9 := Tryd.sizeOf9
  v9 := Tryd.zeroValue9
  t20 := Tryd.underlying20
  a20 := Tryd.isAgg20
  z20 := Tryd.sizeOf20
  v20 := Tryd.zeroValue20
  t21 := Tryd.underlying21
  a21 := Tryd.isAgg21
  z21 := Tryd.sizeOf21
  v21 := Tryd.zeroValue21
  t37 := Tryd.underlying54
  a37 := Tryd.isAgg54
  z37 := Tryd.sizeOf54
  v37 := Tryd.zeroValue54
  t46 := Tryd.underlying111
  a46 := Tryd.isAgg111
  z46 := Tryd.sizeOf111
  v46 := Tryd.zeroValue111
  t51 := Tryd.underlying43
  a51 := Tryd.isAgg43
  z51 := Tryd.sizeOf43
  v51 := Tryd.zeroValue43
  t70 := Tryd.underlying72
  a70 := Tryd.isAgg72
  z70 := Tryd.sizeOf72
  v70 := Tryd.zeroValue72
  t72 := Tryd.underlying74
  a72 := Tryd.isAgg74
  z72 := Tryd.sizeOf74
  v72 := Tryd.zeroValue74
  t75 := Tryd.underlying77
  a75 := Tryd.isAgg77
  z75 := Tryd.sizeOf77
  v75 := Tryd.zeroValue77
  t76 := Tryd.underlying78
  a76 := Tryd.isAgg78
  z76 := Tryd.sizeOf78
  v76 := Tryd.zeroValue78
  t105 := Tryd.underlying97
  a105 := Tryd.isAgg97
  z105 := Tryd.sizeOf97
  v105 := Tryd.zeroValue97
  t119 := Tryd.underlying112
  a119 := Tryd.isAgg112
  z119 := Tryd.sizeOf112
  t127 := Tryd.underlying87
  a127 := Tryd.isAgg87
  z127 := Tryd.sizeOf87
  v127 := Tryd.zeroValue87
  t138 := Tryd.underlying114
  a138 := Tryd.isAgg114
  z138 := Tryd.sizeOf114
  v138 := Tryd.zeroValue114
  t139 := Tryd.underlying115
  a139 := Tryd.isAgg115
  z139 := Tryd.sizeOf115
  v139 := Tryd.zeroValue115
  t146 := Tryd.underlying120
  a146 := Tryd.isAgg120
  z146 := Tryd.sizeOf120
  v146 := Tryd.zeroValue120
  t164 := Tryd.underlying93
  a164 := Tryd.isAgg93
  z164 := Tryd.sizeOf93
  v164 := Tryd.zeroValue93
  g1 := by kernel_rfl
  g3 := by kernel_rfl
  g4 := by kernel_rfl
  t80 := Tryd.underlying80
  a80 := Tryd.isAgg80
  z80 := Tryd.sizeOf80
  v80 := Tryd.zeroValue80
  i0 := by kernel_rfl
  i3 := by kernel_rfl
  i4 := by kernel_rfl
  i5 := by kernel_rfl
  i9 := by kernel_rfl
  i20 := by kernel_rfl
  i21 := by kernel_rfl
  i37 := by kernel_rfl
  i46 := by kernel_rfl
  i51 := by kernel_rfl
  i70 := by kernel_rfl
  i72 := by kernel_rfl
  i75 := by kernel_rfl
  i76 := by kernel_rfl
  i80 := by kernel_rfl
  i105 := by kernel_rfl
  i127 := by kernel_rfl
  i138 := by kernel_rfl
  i139 := by kernel_rfl
  i146 := by kernel_rfl
  i164 := by kernel_rfl
  m1 := by kernel_rfl
  s1_3 := fun w h => Go.Proofs.cell_of_shapedOpen_int (zero := #[.int .i64 0]) (t := 3) h (of_decide_eq_true (by kernel_rfl)) (by kernel_rfl) rfl (by kernel_rfl) (by kernel_rfl) Tryd.underlying3
  m3 := by kernel_rfl
  m4 := by kernel_rfl }
theorem Tryd.Builder_Extra_M154 : Builder.Extra Tryd.prog Tryd.laysM154_ren := {
  sizeBuilder := by kernel_rfl
  liesBuilder := by kernel_rfl
  t5 := Tryd.underlying5
  a5 := Tryd.isAgg5
  z5 := Tryd.sizeOf5
  v5 := Tryd.zeroValue5
  infoByte := by kernel_rfl
  cellsByte := by kernel_rfl
  sizeByte := by kernel_rfl
  neB5 := by decide }
open Go.RowKit Go.Lib in
/-- strings.Replace, old not empty. (LAID: no walk: one application.) -/
theorem Tryd.strings_Replace_shaped (s old new : ByteArray) (n : Int) (w : World) (h : w.ShapedOpen Tryd.prog) (hs : s.size < 4294967281) (h1 : 1 ≤ old.size) (hlen : s.size + Lib.countB s old * new.size ≤ 140737488355328) :
    Calls Tryd.prog 45 #[.string s, .string old, .string new, .int .i64 n] w fun e w' =>
      e = .returned (.string ⟨(Lib.replace s.data.toList old.data.toList new.data.toList n).toArray⟩) ∧ Below w.heap.size w w' := Any.strings_Replace_shaped Tryd.laysM154 Tryd.Builder_Extra_M154 s old new n w h hs h1 hlen
def Tryd.laysM155_ren : Go.Shelf.Ren := ⟨fun | 155 => 35 | 154 => 45 | 138 => 55 | 165 => 32 | 143 => 56 | 166 => 33 | 197 => 57 | 169 => 34 | 195 => 62 | 218 => 63 | 240 => 43 | 241 => 44 | 219 => 64 | 260 => 65 | 276 => 53 | 277 => 54 | 217 => 74 | 225 => 75 | 224 => 76 | 267 => 77 | 266 => 85 | 314 => 86 | n => n, fun | 9 => 9 | 3 => 3 | 4 => 4 | 72 => 74 | 0 => 0 | 76 => 78 | 105 => 97 | 21 => 21 | 5 => 5 | 70 => 72 | 20 => 20 | 37 => 54 | 75 => 77 | 127 => 87 | 164 => 93 | 46 => 111 | 119 => 112 | 139 => 115 | 138 => 114 | 146 => 120 | 51 => 43 | 80 => 80 | n => n, fun | 1 => 0 | 3 => 1 | 4 => 2 | n => n⟩
theorem Tryd.laysM155 : Go.Proofs.LaysM.n155 Tryd.prog Tryd.laysM155_ren := {
  mixed := by kernel_rfl
  f138 := Tryd.func55.trans (congrArg some (by kernel_rfl))
  f143 := Tryd.func56.trans (congrArg some (by kernel_rfl))
  f154 := Tryd.func45.trans (congrArg some (by kernel_rfl))
  f155 := Tryd.func35.trans (congrArg some (by kernel_rfl))
  f165 := Tryd.func32.trans (congrArg some (by kernel_rfl))
  f166 := Tryd.func33.trans (congrArg some (by kernel_rfl))
  f169 := Tryd.func34.trans (congrArg some (by kernel_rfl))
  f195 := Tryd.func62.trans (congrArg some (by kernel_rfl))
  f197 := Tryd.func57.trans (congrArg some (by kernel_rfl))
  f217 := Tryd.func74.trans (congrArg some (by kernel_rfl))
  f218 := Tryd.func63.trans (congrArg some (by kernel_rfl))
  f219 := Tryd.func64.trans (congrArg some (by kernel_rfl))
  f224 := Tryd.func76.trans (congrArg some (by kernel_rfl))
  f225 := Tryd.func75.trans (congrArg some (by kernel_rfl))
  f240 := Tryd.func43.trans (congrArg some (by kernel_rfl))
  f241 := Tryd.func44.trans (congrArg some (by kernel_rfl))
  f260 := Tryd.func65.trans (congrArg some (by kernel_rfl))
  f266 := Tryd.func85.trans (congrArg some (by kernel_rfl))
  f267 := Tryd.func77.trans (congrArg some (by kernel_rfl))
  f276 := Tryd.func53.trans (congrArg some (by kernel_rfl))
  f277 := Tryd.func54.trans (congrArg some (by kernel_rfl))
  f314 := Tryd.func86.trans (congrArg some (by kernel_rfl))
  t0 := Tryd.underlying0
  a0 := Tryd.isAgg0
  z0 := Tryd.sizeOf0
  v0 := Tryd.zeroValue0
  t3 := Tryd.underlying3
  a3 := Tryd.isAgg3
  z3 := Tryd.sizeOf3
  v3 := Tryd.zeroValue3
  t4 := Tryd.underlying4
  a4 := Tryd.isAgg4
  z4 := Tryd.sizeOf4
  v4 := Tryd.zeroValue4
  t5 := Tryd.underlying5
  a5 := Tryd.isAgg5
  z5 := Tryd.sizeOf5
  v5 := Tryd.zeroValue5
  t9 := Tryd.underlying9
  a9 := Tryd.isAgg9
  z9 := Tryd.sizeOf9
  v9 := Tryd.zeroValue9
  t20 := Tryd.underlying20
  a20 := Tryd.isAgg20
  z20 := Tryd.sizeOf20
  v20 := Tryd.zeroValue20
  t21 := Tryd.underlying21
  a21 := Tryd.isAgg21
  z21 := Tryd.sizeOf21
  v21 := Tryd.zeroValue21
  t37 := Tryd.underlying54
  a37 := Tryd.isAgg54
  z37 := Tryd.sizeOf54
  v37 := Tryd.zeroValue54
  t46 := Tryd.underlying111
  a46 := Tryd.isAgg111
  z46 := Tryd.sizeOf111
  v46 := Tryd.zeroValue111
  t51 := Tryd.underlying43
  a51 := Tryd.isAgg43
  z51 := Tryd.sizeOf43
  v51 := Tryd.zeroValue43
  t70 := Tryd.underlying72
  a70 := Tryd.isAgg72
  z70 := Tryd.sizeOf72
  v70 := Tryd.zeroValue72
  t72 := Tryd.underlying74
  a72 := Tryd.isAgg74
  z72 := Tryd.sizeOf74
  v72 := Tryd.zeroValue74
  t75 := Tryd.underlying77
  a75 := Tryd.isAgg77
  z75 := Tryd.sizeOf77
  v75 := Tryd.zeroValue77
  t76 := Tryd.underlying78
  a76 := Tryd.isAgg78
  z76 := Tryd.sizeOf78
  v76 := Tryd.zeroValue78
  t105 := Tryd.underlying97
  a105 := Tryd.isAgg97
  z105 := Tryd.sizeOf97
  v105 := Tryd.zeroValue97
  t119 := Tryd.underlying112
  a119 := Tryd.isAgg112
  z119 := Tryd.sizeOf112
  t127 := Tryd.underlying87
  a127 := Tryd.isAgg87
  z127 := Tryd.sizeOf87
  v127 := Tryd.zeroValue87
  t138 := Tryd.underlying114
  a138 := Tryd.isAgg114
  z138 := Tryd.sizeOf114
  v138 := Tryd.zeroValue114
  t139 := Tryd.underlying115
  a139 := Tryd.isAgg115
  z139 := Tryd.sizeOf115
  v139 := Tryd.zeroValue115
  t146 := Tryd.underlying120
  a146 := Tryd.isAgg120
  z146 := Tryd.sizeOf120
  v146 := Tryd.zeroValue120
  t164 := Tryd.underlying93
  a164 := Tryd.isAgg93
  z164 := Tryd.sizeOf93
  v164 := Tryd.zeroValue93
  g1 := by kernel_rfl
  g3 := by kernel_rfl
  g4 := by kernel_rfl
  t80 := Tryd.underlying80
  a80 := Tryd.isAgg80
  z80 := Tryd.sizeOf80
  v80 := Tryd.zeroValue80
  i0 := by kernel_rfl
  i3 := by kernel_rfl
  i4 := by kernel_rfl
  i5 := by kernel_rfl
  i9 := by kernel_rfl
  i20 := by kernel_rfl
  i21 := by kernel_rfl
  i37 := by kernel_rfl
  i46 := by kernel_rfl
  i51 := by kernel_rfl
  i70 := by kernel_rfl
  i72 := by kernel_rfl
  i75 := by kernel_rfl
  i76 := by kernel_rfl
  i80 := by kernel_rfl
  i105 := by kernel_rfl
  i127 := by kernel_rfl
  i138 := by kernel_rfl
  i139 := by kernel_rfl
  i146 := by kernel_rfl
  i164 := by kernel_rfl
  m1 := by kernel_rfl
  s1_3 := fun w h => Go.Proofs.cell_of_shapedOpen_int (zero := #[.int .i64 0]) (t := 3) h (of_decide_eq_true (by kernel_rfl)) (by kernel_rfl) rfl (by kernel_rfl) (by kernel_rfl) Tryd.underlying3
  m3 := by kernel_rfl
  m4 := by kernel_rfl }
theorem Tryd.Builder_Extra_M155 : Builder.Extra Tryd.prog Tryd.laysM155_ren := {
  sizeBuilder := by kernel_rfl
  liesBuilder := by kernel_rfl
  t5 := Tryd.underlying5
  a5 := Tryd.isAgg5
  z5 := Tryd.sizeOf5
  v5 := Tryd.zeroValue5
  infoByte := by kernel_rfl
  cellsByte := by kernel_rfl
  sizeByte := by kernel_rfl
  neB5 := by decide }
open Go.RowKit Go.Lib in
/-- strings.ReplaceAll, old not empty. (LAID: no walk: one application.) -/
theorem Tryd.strings_ReplaceAll_shaped (s old new : ByteArray) (w : World) (h : w.ShapedOpen Tryd.prog) (hs : s.size < 4294967281) (h1 : 1 ≤ old.size) (hlen : s.size + Lib.countB s old * new.size ≤ 140737488355328) :
    Calls Tryd.prog 35 #[.string s, .string old, .string new] w fun e w' =>
      e = .returned (.string ⟨(Lib.replaceAll s.data.toList old.data.toList new.data.toList).toArray⟩) ∧ Below w.heap.size w w' := Any.strings_ReplaceAll_shaped Tryd.laysM155 Tryd.Builder_Extra_M155 s old new w h hs h1 hlen
def Tryd.lays260_ren : Go.Shelf.Ren := ⟨fun | 260 => 65 | n => n, fun | 9 => 9 | 21 => 21 | 3 => 3 | 4 => 4 | 5 => 5 | 119 => 112 | 0 => 0 | 46 => 111 | 139 => 115 | 138 => 114 | n => n, fun | 3 => 1 | 4 => 2 | n => n⟩
theorem Tryd.lays260 : Go.Proofs.Lays.n260 Tryd.prog Tryd.lays260_ren := {
  mixed := by kernel_rfl
  f260 := Tryd.func65.trans (congrArg some (by kernel_rfl))
  t0 := Tryd.underlying0
  a0 := Tryd.isAgg0
  z0 := Tryd.sizeOf0
  v0 := Tryd.zeroValue0
  t3 := Tryd.underlying3
  a3 := Tryd.isAgg3
  z3 := Tryd.sizeOf3
  v3 := Tryd.zeroValue3
  t4 := Tryd.underlying4
  a4 := Tryd.isAgg4
  z4 := Tryd.sizeOf4
  v4 := Tryd.zeroValue4
  t5 := Tryd.underlying5
  a5 := Tryd.isAgg5
  z5 := Tryd.sizeOf5
  v5 := Tryd.zeroValue5
  t9 := Tryd.underlying9
  a9 := Tryd.isAgg9
  z9 := Tryd.sizeOf9
  v9 := Tryd.zeroValue9
  t21 := Tryd.underlying21
  a21 := Tryd.isAgg21
  z21 := Tryd.sizeOf21
  v21 := Tryd.zeroValue21
  t46 := Tryd.underlying111
  a46 := Tryd.isAgg111
  z46 := Tryd.sizeOf111
  v46 := Tryd.zeroValue111
  t119 := Tryd.underlying112
  a119 := Tryd.isAgg112
  z119 := Tryd.sizeOf112
  t138 := Tryd.underlying114
  a138 := Tryd.isAgg114
  z138 := Tryd.sizeOf114
  v138 := Tryd.zeroValue114
  t139 := Tryd.underlying115
  a139 := Tryd.isAgg115
  z139 := Tryd.sizeOf115
  v139 := Tryd.zeroValue115
  g3 := by kernel_rfl
  g4 := by kernel_rfl }
open Go.RowKit Go.Lib in
theorem Tryd.utf8_decodeRuneInStringSlow (s : ByteArray) (w : World) (hT : Lib.Utf8Tabs 1 2 w) :
    Calls Tryd.prog 65 #[.string s] w fun e w' => e = .returned (.tuple #[.int .i32 (Lib.decodeGo s).1, .int .i64 (Lib.decodeGo s).2]) ∧ Below w.heap.size w w' := Any.utf8_decodeRuneInStringSlow Tryd.lays260 s w hT
end Go.Proofs
end
section
set_option linter.unusedSimpArgs false
namespace Go.Am
open Go Go.Proofs

variable {O : Type} {unf : O → List (AO O)}

theorem join_flatten (xs : List (List UInt8)) : Lib.join xs [] = xs.flatten := by
  cases xs with
  | nil => rfl
  | cons x r => rw [Lib.join_cons, Lib.joinTail]; simp

theorem join_ok {M : Mem O} {a : AV} {xs : List (List UInt8)} (h : Texts M a xs) (hl : xs.flatten.length ≤ 1000000000) (hn : xs.length ≤ 1000000000) :
    CallT unf Tryd.prog 22 [a, .str []] M (fun v M' ch => v = .str xs.flatten ∧ M' = M ∧ ch = []) := by
  refine .of_below Tryd.call22 fun κ S w cargs hR hargs => ?_
  obtain ⟨c, d, rfl, hc, hd⟩ := args_two hargs
  obtain ⟨sep, rfl, hsep⟩ := hd.str_inv
  rcases h.sound hR hc with ⟨rfl, q, n, rfl⟩ | ⟨bk, o, n, bs, rfl, g1, g2, g3, g4⟩
  · exact ⟨.string ⟨#[]⟩, .str ⟨#[]⟩, (Tryd.strings_Join_none q n sep w).mono fun e w' ⟨h1, h2⟩ => ⟨h1, h2 ▸ .refl _ _⟩⟩
  · have e : Lib.join (bs.map (·.data.toList)) sep.data.toList = xs.flatten := by rw [g2, hsep, join_flatten]
    refine ⟨_, ?_, Tryd.strings_Join bk o n bs sep w g4 g3 ?_ g1 ?_⟩
    · rw [e]; exact .str ⟨xs.flatten.toArray⟩
    · have : bs.length = xs.length := by rw [← g2]; simp
      omega
    · rw [e]; omega

/-- each 255 twice -/
def dbl (s : List UInt8) : List UInt8 := s.flatMap fun b => if b = 255 then [255, 255] else [b]

theorem dbl_app (s t : List UInt8) : dbl (s ++ t) = dbl s ++ dbl t := by simp [dbl]
theorem dbl_cons (b : UInt8) (t : List UInt8) : dbl (b :: t) = (if b = 255 then [255, 255] else [b]) ++ dbl t := rfl
theorem dbl_length (s : List UInt8) : (dbl s).length ≤ 2 * s.length := by
  induction s with
  | nil => simp [dbl]
  | cons b s ih => rw [dbl_cons]; simp; split <;> simp <;> omega

theorem index_cons_ne {b c : UInt8} (h : b ≠ c) (l : List UInt8) : Lib.index (b :: l) [c] = if Lib.index l [c] == -1 then -1 else Lib.index l [c] + 1 := by
  rw [Lib.index, if_neg (by simp [List.isPrefixOf, Ne.symm h])]
theorem index_cons_eq (c : UInt8) (l : List UInt8) : Lib.index (c :: l) [c] = 0 := by
  rw [Lib.index, if_pos (by simp [List.isPrefixOf])]

theorem replaceK_cons_ne {b c : UInt8} (h : b ≠ c) (new : List UInt8) (k : Nat) (l : List UInt8) : Lib.replaceK [c] new k (b :: l) = b :: Lib.replaceK [c] new k l := by
  cases k with
  | zero => rfl
  | succ k =>
    rw [Lib.replaceK, Lib.replaceK, index_cons_ne h]
    have hge := Lib.index_ge l [c]
    by_cases hi : Lib.index l [c] = -1
    · simp [hi]
    · obtain ⟨i, hi'⟩ : ∃ i : Nat, Lib.index l [c] = i := ⟨(Lib.index l [c]).toNat, by omega⟩
      rw [hi']
      have e1 : ((i : Int) == -1) = false := beq_eq_false_iff_ne.2 (by omega)
      have e2 : ((i : Int) + 1 == -1) = false := beq_eq_false_iff_ne.2 (by omega)
      simp only [e1, e2, Bool.false_eq_true, if_false]
      have e3 : ((i : Int) + 1).toNat = i + 1 := by omega
      rw [e3]
      simp [Nat.add_right_comm]
theorem replaceK_cons_eq (c : UInt8) (new : List UInt8) (k : Nat) (l : List UInt8) : Lib.replaceK [c] new (k + 1) (c :: l) = new ++ Lib.replaceK [c] new k l := by
  rw [Lib.replaceK, index_cons_eq]
  simp

theorem replaceAll_dbl (s : List UInt8) : Lib.replaceAll s [255] [255, 255] = dbl s := by
  have e : Lib.replaceAll s [255] [255, 255] = Lib.replaceK [255] [255, 255] (Lib.count s [255]) s := by
    unfold Lib.replaceAll Lib.replace Lib.replaceNum
    rw [if_neg (by decide), if_pos (.inl (by decide))]
  rw [e]
  clear e
  induction s with
  | nil => rfl
  | cons b s ih =>
    rw [dbl_cons]
    by_cases h : b = 255
    · subst h
      rw [Lib.count_cons_eq, Nat.add_comm, replaceK_cons_eq, ih]; rfl
    · rw [Lib.count_cons_ne _ _ _ h, replaceK_cons_ne h, ih, if_neg h]; rfl

theorem replaceAll_ok (s : List UInt8) (hl : s.length ≤ 1000000000) (M : Mem O) : CallT unf Tryd.prog 35 [.str s, .str [255], .str [255, 255]] M (fun v M' ch => v = .str (dbl s) ∧ M' = M ∧ ch = []) := by
  refine .of_below Tryd.call35 fun κ S w cargs hR hargs => ?_
  obtain ⟨c1, c2, c3, rfl, h1, h2, h3⟩ := args_three hargs
  obtain ⟨b1, rfl, e1⟩ := h1.str_inv
  obtain ⟨b2, rfl, e2⟩ := h2.str_inv
  obtain ⟨b3, rfl, e3⟩ := h3.str_inv
  obtain ⟨A, hA, m, hAm⟩ := hR.glob _ _ (.head _)
  obtain ⟨_, t, fz, hcell, _⟩ := hR.imm _ _ hA
  have hm := (cell_of (i := 0) hcell).trans hAm
  have hs1 : b1.size = s.length := by have := Lib.size_eq b1; rw [this]; simp [e1]
  have hs2 : b2.size = 1 := by have := Lib.size_eq b2; rw [this, e2]; rfl
  have hs3 : b3.size = 2 := by have := Lib.size_eq b3; rw [this, e3]; rfl
  have hc := Lib.countB_mul_le b2 (by omega) b1.size b1 (Nat.le_refl _)
  refine ⟨_, ?_, Tryd.strings_ReplaceAll b1 b2 b3 m w (by omega) hm (by omega) (by rw [hs2] at hc; rw [hs3]; omega)⟩
  rw [e1, e2, e3, replaceAll_dbl]
  exact .str ⟨(dbl s).toArray⟩

end Go.Am
end
section
set_option linter.unusedSimpArgs false
namespace Go.Am
open Go Go.Proofs

variable {O : Type} {unf : O → List (AO O)}

/-- a 0 behind each 13 behind which no 10 stands -/
def cr : List UInt8 → List UInt8
  | [] => []
  | b :: r => if b = 13 ∧ r.head? ≠ some 10 then b :: 0 :: cr r else b :: cr r
def wireData (bin : Bool) (s : List UInt8) : List UInt8 := dbl (if bin then s else cr s)

theorem cr_length (s : List UInt8) : (cr s).length ≤ 2 * s.length := by
  induction s with
  | nil => simp [cr]
  | cons b s ih => rw [cr]; split <;> simp <;> omega

theorem byte_wrap (b : UInt8) : decide ((b.toNat : Int) = 13) = (b == 13) := by
  by_cases h : b = 13
  · subst h; simp
  · have : ¬(b.toNat : Int) = 13 := fun hc => h (UInt8.toNat_inj.1 (by simpa using (by exact_mod_cast hc : b.toNat = 13)))
    simp [h, this]

set_option maxRecDepth 100000
attribute [local irreducible] CallT Ent pushA

theorem double_ok (s : List UInt8) (hl : s.length ≤ 1000000000) (M : Mem O) : CallT unf Tryd.prog 23 [.str s] M (fun v M' ch => v = .str (dbl s) ∧ M' = M ∧ ch = []) := by
  refine CallT.by_body Tryd.func23 rfl Tryd.call23 rfl (.refl _ _ _) ?_
  ((conv => whnf); (repeat ((with_reducible refine Rest.mk ?_); (conv => whnf))))
  refine (replaceAll_ok s hl M).mono ?_
  rintro v M' ch ⟨rfl, rfl, rfl⟩ _
  ((conv => whnf); (repeat ((with_reducible refine Rest.mk ?_); (conv => whnf))))
  exact fin.mk _ _ [] (.refl _ _ _) ⟨rfl, rfl, rfl⟩ (.refl _ _)

theorem data0_ok (bin : Bool) (xs : List (List UInt8)) (hx : xs.length ≤ 1000000) (hl : xs.flatten.length ≤ 1000000) : CallT unf Tryd.prog 7 [.bool bin, .vs (xs.map .str) xs.length] [] (fun v M' ch => v = .str (wireData bin xs.flatten) ∧ M' = [] ∧ ch = []) := by
  refine CallT.by_body Tryd.func7 rfl Tryd.call7 rfl (.refl _ _ _) ?_
  ((conv => whnf); (repeat ((with_reducible refine Rest.mk ?_); (conv => whnf))))
  refine (join_ok (.inr (.inl rfl)) (by omega) (by omega)).mono ?_
  rintro v M' ch ⟨rfl, rfl, rfl⟩ _
  generalize hs : xs.flatten = s at hl ⊢
  cases bin
  · ((conv => whnf); (repeat ((with_reducible refine Rest.mk ?_); (conv => whnf))))
    refine .inl (loopG (α := Nat × Option (List UInt8)) (inv := fun a => a.1 ≤ s.length ∧ a.2.getD [] ++ cr (s.drop a.1) = cr s ∧ (a.2.getD []).length ≤ 2 * a.1)
      (st := fun a => [.bool false, .und, .und, .und, .str [], .str s, accSl 0 a.2, .und, .und, .und, .und, .und, .und, .und, .int .i64 s.length, .int .i64 (a.1 : Nat), .und, .und, .und, .und, .und, .und, .und, .und, .und, .und, .und, .und, .und, .und, .und, .und, .und, .und, .und, .und, .und, .und, .und, .und, .und, .und, .und, .und, .und, .und, .und, .und, .und])
      (mm := fun a => [accRow a.2]) (μ := fun a => s.length - a.1) (0, none) (by simp) ?_ ?_)
    · exact .low (τ := [0]) (Parts.low (by decide) (.dead .nil)) (by (repeat' (first | exact LowL.nil _ | refine LowL.cons (.und _) ?_ | refine LowL.cons (.int _ _) ?_ | refine LowL.cons (.str _) ?_ | refine LowL.cons (.bool _) ?_ | refine LowL.cons (.ptr rfl) ?_ | refine LowL.cons (.sl rfl) ?_ | refine LowL.cons (low_vsS _ _) ?_ | refine LowL.cons (low_vsI _ _) ?_ | refine LowL.cons (low_tx rfl _) ?_ | refine LowL.cons .nilS ?_ | refine LowL.cons .nilP ?_ | refine LowL.cons (low_acc rfl _) ?_ | refine LowL.cons (low_toSl rfl _) ?_ | refine LowL.cons (low_bySl rfl _) ?_ | refine LowL.cons (low_toSlE rfl (by simp)) ?_))) (Nat.zero_le _) (fun i hi => by simp at hi)
    rintro ⟨k, acc⟩ ⟨hk, hacc, hal⟩
    dsimp only at hk hacc hal ⊢
    ((conv => whnf); (repeat ((with_reducible refine Rest.mk ?_); (conv => whnf))))
    refine testK_split (fun h => ?_) (fun h => ?_) <;> ((conv => whnf); (repeat ((with_reducible refine Rest.mk ?_); (conv => whnf))))
    · simp only [decide_eq_true_eq] at h
      have hkn : k < s.length := by omega
      have e1 : ((k : Int)).toNat = k := by simp
      rw [List.drop_eq_getElem_cons hkn, cr] at hacc
      have hget : s.getD k 0 = s[k] := by simp [hkn]
      refine testK_true (by simp; omega) ?_
      ((conv => whnf); (repeat ((with_reducible refine Rest.mk ?_); (conv => whnf))))
      rw [e1, hget]
      generalize hb : s[k] = b at hacc ⊢
      refine push_bytes (sz5 _) (by5 _) (fun R h => zero_uint8 R h _) (bs := [b]) rfl (by simp [sz5, sub, encB]) rfl (by simp) (by simp; omega) ?_
      ((conv => whnf); (repeat ((with_reducible refine Rest.mk ?_); (conv => whnf))))
      refine testK_true (by simp; omega) ?_
      ((conv => whnf); (repeat ((with_reducible refine Rest.mk ?_); (conv => whnf))))
      rw [e1, hget, hb, byte_wrap b]
      have done0 : ¬(b = 13 ∧ (s.drop (k + 1)).head? ≠ some 10) → ∃ a' : Nat × Option (List UInt8), a' = (k + 1, some (acc.getD [] ++ [b])) ∧ (a'.1 ≤ s.length ∧ a'.2.getD [] ++ cr (s.drop a'.1) = cr s ∧ (a'.2.getD []).length ≤ 2 * a'.1) := by
        intro hno
        rw [if_neg hno] at hacc
        exact ⟨_, rfl, hkn, by simpa using hacc, by simp; omega⟩
      have done1 : (b = 13 ∧ (s.drop (k + 1)).head? ≠ some 10) → ∃ a' : Nat × Option (List UInt8), a' = (k + 1, some (acc.getD [] ++ [b] ++ [0])) ∧ (a'.1 ≤ s.length ∧ a'.2.getD [] ++ cr (s.drop a'.1) = cr s ∧ (a'.2.getD []).length ≤ 2 * a'.1) := by
        intro hno
        rw [if_pos hno] at hacc
        exact ⟨_, rfl, hkn, by simpa using hacc, by simp; omega⟩
      have hw := wrap_succ (k := k) (by omega)
      refine testK_split (fun h13 => ?_) (fun h13 => ?_) <;> ((conv => whnf); (repeat ((with_reducible refine Rest.mk ?_); (conv => whnf))))
      · simp only [beq_iff_eq] at h13
        rw [hw]
        refine testK_split (fun hend => ?_) (fun hend => ?_) <;> ((conv => whnf); (repeat ((with_reducible refine Rest.mk ?_); (conv => whnf))))
        · refine push_bytes (sz5 _) (by5 _) (fun R h => zero_uint8 R h _) (bs := [0]) rfl (by simp [sz5, sub, encB]) rfl (by simp) (by simp; omega) ?_
          ((conv => whnf); (repeat ((with_reducible refine Rest.mk ?_); (conv => whnf))))
          rw [hw]
          obtain ⟨a', rfl, hinv⟩ := done1 ⟨h13, by
            have : k + 1 = s.length := by simp at hend; omega
            rw [this]; simp⟩
          exact ⟨_, _, _, .low (τ := [4]) (Parts.low (by decide) (part_acc (.inr rfl) .nil)) (by (repeat' (first | exact LowL.nil _ | refine LowL.cons (.und _) ?_ | refine LowL.cons (.int _ _) ?_ | refine LowL.cons (.str _) ?_ | refine LowL.cons (.bool _) ?_ | refine LowL.cons (.ptr rfl) ?_ | refine LowL.cons (.sl rfl) ?_ | refine LowL.cons (low_vsS _ _) ?_ | refine LowL.cons (low_vsI _ _) ?_ | refine LowL.cons (low_tx rfl _) ?_ | refine LowL.cons .nilS ?_ | refine LowL.cons .nilP ?_ | refine LowL.cons (low_acc rfl _) ?_ | refine LowL.cons (low_toSl rfl _) ?_ | refine LowL.cons (low_bySl rfl _) ?_ | refine LowL.cons (low_toSlE rfl (by simp)) ?_))) (Nat.zero_le _) (fun i hi => by simp at hi), ⟨hinv, rfl, rfl⟩, by simp; omega⟩
        · refine testK_true (by simp at hend ⊢; omega) ?_
          ((conv => whnf); (repeat ((with_reducible refine Rest.mk ?_); (conv => whnf))))
          have hk1 : k + 1 < s.length := by simp at hend; omega
          have hhd : (s.drop (k + 1)).head? = some (s.getD (k + 1) 0) := by rw [List.drop_eq_getElem_cons hk1]; simp [hk1]
          have e2 : (IntKind.i64.wrap ((k : Int) + 1)).toNat = k + 1 := by rw [hw]; simp
          rw [e2]
          have hb10 : ∀ x : UInt8, (x.toNat : Int) = 10 ↔ x = 10 := fun x => ⟨fun h => UInt8.toNat_inj.1 (by simpa using (by exact_mod_cast h : x.toNat = 10)), fun h => by subst h; rfl⟩
          refine testK_split (fun h10 => ?_) (fun h10 => ?_) <;> ((conv => whnf); (repeat ((with_reducible refine Rest.mk ?_); (conv => whnf))))
          all_goals simp only [hb10] at h10
          · refine push_bytes (sz5 _) (by5 _) (fun R h => zero_uint8 R h _) (bs := [0]) rfl (by simp [sz5, sub, encB]) rfl (by simp) (by simp; omega) ?_
            ((conv => whnf); (repeat ((with_reducible refine Rest.mk ?_); (conv => whnf))))
            rw [hw]
            obtain ⟨a', rfl, hinv⟩ := done1 ⟨h13, by rw [hhd]; simpa using h10⟩
            exact ⟨_, _, _, .low (τ := [4]) (Parts.low (by decide) (part_acc (.inr rfl) .nil)) (by (repeat' (first | exact LowL.nil _ | refine LowL.cons (.und _) ?_ | refine LowL.cons (.int _ _) ?_ | refine LowL.cons (.str _) ?_ | refine LowL.cons (.bool _) ?_ | refine LowL.cons (.ptr rfl) ?_ | refine LowL.cons (.sl rfl) ?_ | refine LowL.cons (low_vsS _ _) ?_ | refine LowL.cons (low_vsI _ _) ?_ | refine LowL.cons (low_tx rfl _) ?_ | refine LowL.cons .nilS ?_ | refine LowL.cons .nilP ?_ | refine LowL.cons (low_acc rfl _) ?_ | refine LowL.cons (low_toSl rfl _) ?_ | refine LowL.cons (low_bySl rfl _) ?_ | refine LowL.cons (low_toSlE rfl (by simp)) ?_))) (Nat.zero_le _) (fun i hi => by simp at hi), ⟨hinv, rfl, rfl⟩, by simp; omega⟩
          · rw [hw]
            obtain ⟨a', rfl, hinv⟩ := done0 (fun hc => hc.2 (by rw [hhd]; simpa using h10))
            exact ⟨_, _, _, .low (τ := [2]) (Parts.low (by decide) (part_acc (.inr rfl) .nil)) (by (repeat' (first | exact LowL.nil _ | refine LowL.cons (.und _) ?_ | refine LowL.cons (.int _ _) ?_ | refine LowL.cons (.str _) ?_ | refine LowL.cons (.bool _) ?_ | refine LowL.cons (.ptr rfl) ?_ | refine LowL.cons (.sl rfl) ?_ | refine LowL.cons (low_vsS _ _) ?_ | refine LowL.cons (low_vsI _ _) ?_ | refine LowL.cons (low_tx rfl _) ?_ | refine LowL.cons .nilS ?_ | refine LowL.cons .nilP ?_ | refine LowL.cons (low_acc rfl _) ?_ | refine LowL.cons (low_toSl rfl _) ?_ | refine LowL.cons (low_bySl rfl _) ?_ | refine LowL.cons (low_toSlE rfl (by simp)) ?_))) (Nat.zero_le _) (fun i hi => by simp at hi), ⟨hinv, rfl, rfl⟩, by simp; omega⟩
      · rw [hw]
        simp only [beq_eq_false_iff_ne, ne_eq] at h13
        obtain ⟨a', rfl, hinv⟩ := done0 (fun hc => h13 hc.1)
        exact ⟨_, _, _, .low (τ := [2]) (Parts.low (by decide) (part_acc (.inr rfl) .nil)) (by (repeat' (first | exact LowL.nil _ | refine LowL.cons (.und _) ?_ | refine LowL.cons (.int _ _) ?_ | refine LowL.cons (.str _) ?_ | refine LowL.cons (.bool _) ?_ | refine LowL.cons (.ptr rfl) ?_ | refine LowL.cons (.sl rfl) ?_ | refine LowL.cons (low_vsS _ _) ?_ | refine LowL.cons (low_vsI _ _) ?_ | refine LowL.cons (low_tx rfl _) ?_ | refine LowL.cons .nilS ?_ | refine LowL.cons .nilP ?_ | refine LowL.cons (low_acc rfl _) ?_ | refine LowL.cons (low_toSl rfl _) ?_ | refine LowL.cons (low_bySl rfl _) ?_ | refine LowL.cons (low_toSlE rfl (by simp)) ?_))) (Nat.zero_le _) (fun i hi => by simp at hi), ⟨hinv, rfl, rfl⟩, by simp; omega⟩
    · have hkx : k = s.length := by simp at h; omega
      subst hkx
      rw [List.drop_length, cr, List.append_nil] at hacc
      have hcl := cr_length s
      rcases acc with _ | acc
      · ((conv => whnf); (repeat ((with_reducible refine Rest.mk ?_); (conv => whnf))))
        have hnil : cr s = [] := hacc.symm
        refine (double_ok [] (by simp) _).mono ?_
        rintro v M' ch ⟨rfl, rfl, rfl⟩ _
        ((conv => whnf); (repeat ((with_reducible refine Rest.mk ?_); (conv => whnf))))
        exact fin.flat (.str _) ⟨by simp [wireData, hnil], rfl, rfl⟩
      · obtain rfl : acc = cr s := hacc
        ((conv => whnf); (repeat ((with_reducible refine Rest.mk ?_); (conv => whnf))))
        refine testK_true (by simp [encB_length]) ?_
        rw [Nat.mul_one, sub_encB]
        refine testK_true (all_encB _) ?_
        rw [decB_encB]
        ((conv => whnf); (repeat ((with_reducible refine Rest.mk ?_); (conv => whnf))))
        refine (double_ok _ (by omega) _).mono ?_
        rintro v M' ch ⟨rfl, rfl, rfl⟩ _
        ((conv => whnf); (repeat ((with_reducible refine Rest.mk ?_); (conv => whnf))))
        exact fin.flat (.str _) ⟨rfl, rfl, rfl⟩
  · ((conv => whnf); (repeat ((with_reducible refine Rest.mk ?_); (conv => whnf))))
    refine (double_ok _ (by omega) _).mono ?_
    rintro v M' ch ⟨rfl, rfl, rfl⟩ _
    ((conv => whnf); (repeat ((with_reducible refine Rest.mk ?_); (conv => whnf))))
    exact fin.mk _ _ [] (.refl _ _ _) ⟨rfl, rfl, rfl⟩ (.refl _ _)
end Go.Am
end
