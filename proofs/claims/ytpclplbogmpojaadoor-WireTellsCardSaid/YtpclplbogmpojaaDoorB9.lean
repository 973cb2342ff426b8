/-
  Part 9 of a proof: an abstract machine for the program, and what pieces of the program compute (WTells, Law). No condition of its own.
-/
import Derived.Test.YtpclplbogmpojaaDoorB8
import Derived.Carry
import Derived.Deep.Strs
import Derived.ChangeSlices
import Derived.OpenShut
import Derived.ProofKit
import Derived.ChangeSame
set_option linter.unusedSimpArgs false
set_option linter.unusedVariables false
section
set_option linter.unusedSimpArgs false
namespace Go.Am
open Go Go.Proofs

set_option maxRecDepth 100000
attribute [local irreducible] CallT Ent pushA

theorem same_true (x : List UInt8) : decide (x = x) = true := decide_eq_true rfl

/-- the texts lent, and one mark behind them -/
def mrow (xs : List (List UInt8)) : AO Ob := .cells (some 1) ((xs ++ [markB]).map .str)

theorem flat_m (xs : List (List UInt8)) (M : Mem Ob) (h : M[0]? = some (mrow xs)) : Lend M (.vs (xs.map .str) xs.length) (.sl 0 0 xs.length (xs.length + 1)) := by
  refine .sl (z := 1) h (by simp) (flat_texts _) (fun i hi => ?_)
  simp at hi
  simp [List.getElem?_append_left, hi]

theorem free_tup2 (s : List UInt8) (n : Int) : Free (.tup [.str s, .int .i64 n]) := .tupL (by intro v hv; simp at hv; rcases hv with rfl | rfl <;> constructor)

theorem option_any (cmd o : Int) (M : Mem Ob) : T 13 [.int .i64 cmd, .int .i64 o] M (fun v M' ch => v = (if 251 ≤ cmd ∧ cmd ≤ 254 ∧ 0 ≤ o ∧ o ≤ 255 then .tup [.str [255, UInt8.ofNat cmd.toNat, UInt8.ofNat o.toNat], .int .i64 0] else .tup [.str [], .int .i64 1]) ∧ M' = M ∧ ch = []) :=
  ((option_ok cmd o).mono fun v M' ch h _ => ⟨h.1, h.2.1⟩).lend (by rintro v rfl; split <;> exact free_tup2 _ _) (.cons (.flat (.int _ _)) (.cons (.flat (.int _ _)) .nil))
theorem roption_any (cmd o : Int) (h1 : 0 ≤ cmd ∧ cmd ≤ 255) (h2 : 0 ≤ o ∧ o ≤ 255) (M : Mem Ob) : T 15 [.int .i64 cmd, .int .i64 o] M (fun v M' ch => v = .str [255, UInt8.ofNat cmd.toNat, UInt8.ofNat o.toNat] ∧ M' = M ∧ ch = []) :=
  (roption_ok cmd o h1 h2).lend (by rintro v rfl; exact .flat (.str _)) (.cons (.flat (.int _ _)) (.cons (.flat (.int _ _)) .nil))
theorem free_sub (o : Int) (s : List UInt8) : Free (wireSub o s) := by
  unfold wireSub
  repeat' split
  all_goals exact free_tup2 _ _
theorem sub_m (o : Int) (xs : List (List UInt8)) (hx : xs.length ≤ 1000000) (hl : xs.flatten.length ≤ 1000000) (M : Mem Ob) (h : M[0]? = some (mrow xs)) :
    T 14 [.int .i64 o, .sl 0 0 xs.length (xs.length + 1)] M (fun v M' ch => v = wireSub o xs.flatten ∧ M' = M ∧ ch = []) :=
  ((sub_ok o xs hx hl).mono fun v M' ch h _ => ⟨h.1, h.2.1⟩).lend (by rintro v rfl; exact free_sub _ _) (.cons (.flat (.int _ _)) (.cons (flat_m xs M h) .nil))
theorem data_m (bin : Bool) (xs : List (List UInt8)) (hx : xs.length ≤ 1000000) (hl : xs.flatten.length ≤ 1000000) (M : Mem Ob) (h : M[0]? = some (mrow xs)) :
    T 7 [.bool bin, .sl 0 0 xs.length (xs.length + 1)] M (fun v M' ch => v = .str (wireData bin xs.flatten) ∧ M' = M ∧ ch = []) :=
  ((data0_ok bin xs hx hl).mono fun v M' ch h _ => ⟨h.1, h.2.1⟩).lend (by rintro v rfl; exact .flat (.str _)) (.cons (.flat (.bool _)) (.cons (flat_m xs M h) .nil))
theorem rsub_any (o : Int) (s : List UInt8) (h : 0 ≤ o ∧ o ≤ 255) (hl : s.length ≤ 1000000) (M : Mem Ob) : T 16 [.int .i64 o, .str s] M (fun v M' ch => v = .str ([255, 250, UInt8.ofNat o.toNat] ++ refData true s ++ [255, 240]) ∧ M' = M ∧ ch = []) :=
  (rsubm_ok o s h hl).lend (by rintro v rfl; exact .flat (.str _)) (.cons (.flat (.int _ _)) (.cons (.flat (.str _)) .nil))
theorem rdata_any (bin : Bool) (s : List UInt8) (hl : s.length ≤ 1000000) (M : Mem Ob) : T 17 [.bool bin, .str s] M (fun v M' ch => v = .str (refData bin s) ∧ M' = M ∧ ch = []) :=
  (rdata_ok bin s hl).lend (by rintro v rfl; exact .flat (.str _)) (.cons (.flat (.bool _)) (.cons (.flat (.str _)) .nil))
theorem join_any (xs : List (List UInt8)) (hn : xs.length ≤ 1000000) (hl : xs.flatten.length ≤ 1000000) (M : Mem Ob) : T 12 [.vs (xs.map .str) xs.length] M (fun v M' ch => v = .str xs.flatten ∧ M' = M ∧ ch = []) :=
  (bjoin_ok xs hn hl).lend (by rintro v rfl; exact .flat (.str _)) (.cons (.vs (flat_texts _)) .nil)
theorem stays_any (xs : List (List UInt8)) (hn : xs.length ≤ 1000000) : T 18 [.sl 0 0 xs.length (xs.length + 1), .vs (xs.map .str) xs.length] [mrow xs] (fun v M' ch => v = .bool true ∧ M' = [mrow xs]) := stays_ok xs hn

theorem tells_ok (bin : Bool) (xs : List (List UInt8)) (cmd o : Int) (b : List UInt8) : T 4 [.bool bin, .vs (xs.map .str) xs.length, .int .i64 cmd, .int .i64 o, .str b] [] (fun v M' _ => v = .bool true ∧ M' = []) := by
  refine CallT.by_body Tryd.func4 rfl Tryd.call4 rfl (.refl _ _ _) ?_
  have htrue : ∀ (M : Mem Ob), fin unfW 0 [] (fun v M' _ => v = .bool true ∧ M' = []) (.bool true) M := fun M => fin.flat (.bool _) ⟨rfl, rfl⟩
  ((conv => whnf); (repeat ((with_reducible refine Rest.mk ?_); (conv => whnf))))
  refine (short_ok 20 600 xs (by omega) (by omega)).mono ?_
  rintro v M' ch ⟨rfl, rfl⟩ _
  by_cases hs : xs.length ≤ 20 ∧ xs.flatten.length ≤ 600
  case neg =>
    rw [decide_eq_false hs]
    ((conv => whnf); (repeat ((with_reducible refine Rest.mk ?_); (conv => whnf))))
    refine alive_ok.mono ?_
    rintro v M' ch ⟨rfl, rfl⟩ _
    ((conv => whnf); (repeat ((with_reducible refine Rest.mk ?_); (conv => whnf))))
    exact htrue _
  rw [decide_eq_true hs]
  obtain ⟨hs1, hs2⟩ := hs
  ((conv => whnf); (repeat ((with_reducible refine Rest.mk ?_); (conv => whnf))))
  refine testK_split (fun h => ?_) (fun h => ?_) <;> ((conv => whnf); (repeat ((with_reducible refine Rest.mk ?_); (conv => whnf))))
  · refine alive_ok.mono ?_
    rintro v M' ch ⟨rfl, rfl⟩ _
    ((conv => whnf); (repeat ((with_reducible refine Rest.mk ?_); (conv => whnf))))
    exact htrue _
  have hb : b.length ≤ 600 := by simp at h; omega
  refine alive_ok.mono ?_
  rintro v M' ch ⟨rfl, rfl⟩ _
  ((conv => whnf); (repeat ((with_reducible refine Rest.mk ?_); (conv => whnf))))
  refine (lent_ok xs (by omega)).mono ?_
  rintro v M' ch ⟨rfl, rfl⟩ _
  ((conv => whnf); (repeat ((with_reducible refine Rest.mk ?_); (conv => whnf))))
  refine (join_any xs (by omega) (by omega) _).mono ?_
  rintro v M' ch ⟨rfl, rfl, rfl⟩ _
  ((conv => whnf); (repeat ((with_reducible refine Rest.mk ?_); (conv => whnf))))
  refine (option_any cmd o _).mono ?_
  rintro v M' ch ⟨rfl, rfl, rfl⟩ _
  have hsub : ∀ (h : 0 ≤ o ∧ o ≤ 255), wireSub o xs.flatten = if 40 < xs.flatten.length then .tup [.str [], .int .i64 4] else .tup [.str ([255, 250, UInt8.ofNat o.toNat] ++ dbl xs.flatten ++ [255, 240]), .int .i64 0] := fun h => by unfold wireSub; rw [if_neg (by omega)]
  by_cases hr : 0 ≤ o ∧ o ≤ 255
  case pos =>
    have d1 : decide ((0:Int) ≤ o) = true := decide_eq_true hr.1
    have d2 : decide (o ≤ (255:Int)) = true := decide_eq_true hr.2
    by_cases hc : 251 ≤ cmd ∧ cmd ≤ 254
    case pos =>
      rw [if_pos ⟨hc.1, hc.2, hr⟩]
      ((conv => whnf); (repeat ((with_reducible refine Rest.mk ?_); (conv => whnf))))
      refine (sub_m o xs (by omega) (by omega) _ rfl).mono ?_
      rintro v M' ch ⟨rfl, rfl, rfl⟩ _
      rw [hsub hr]
      by_cases hl : 40 < xs.flatten.length
      case pos =>
        rw [if_pos hl]
        ((conv => whnf); (repeat ((with_reducible refine Rest.mk ?_); (conv => whnf))))
        rw [d1]
        ((conv => whnf); (repeat ((with_reducible refine Rest.mk ?_); (conv => whnf))))
        rw [d2]
        ((conv => whnf); (repeat ((with_reducible refine Rest.mk ?_); (conv => whnf))))
        rw [show decide ((251:Int) ≤ cmd) = true from decide_eq_true hc.1]
        ((conv => whnf); (repeat ((with_reducible refine Rest.mk ?_); (conv => whnf))))
        rw [show decide (cmd ≤ (254:Int)) = true from decide_eq_true hc.2]
        ((conv => whnf); (repeat ((with_reducible refine Rest.mk ?_); (conv => whnf))))
        refine (roption_any cmd o (by omega) hr _).mono ?_
        rintro v M' ch ⟨rfl, rfl, rfl⟩ _
        ((conv => whnf); (repeat ((with_reducible refine Rest.mk ?_); (conv => whnf))))
        rw [same_true]
        ((conv => whnf); (repeat ((with_reducible refine Rest.mk ?_); (conv => whnf))))
        rw [show decide ((40:Int) < (xs.flatten.length : Int)) = true from decide_eq_true (by omega)]
        ((conv => whnf); (repeat ((with_reducible refine Rest.mk ?_); (conv => whnf))))
        refine (data_m bin xs (by omega) (by omega) _ rfl).mono ?_
        rintro v M' ch ⟨rfl, rfl, rfl⟩ _
        ((conv => whnf); (repeat ((with_reducible refine Rest.mk ?_); (conv => whnf))))
        refine (rdata_any bin _ (by omega) _).mono ?_
        rintro v M' ch ⟨rfl, rfl, rfl⟩ _
        rw [refData_eq]
        ((conv => whnf); (repeat ((with_reducible refine Rest.mk ?_); (conv => whnf))))
        rw [same_true]
        ((conv => whnf); (repeat ((with_reducible refine Rest.mk ?_); (conv => whnf))))
        refine (wplain_any bin b (by omega) _).mono ?_
        rintro v M' ch ⟨rfl, rfl, rfl⟩ _
        ((conv => whnf); (repeat ((with_reducible refine Rest.mk ?_); (conv => whnf))))
        refine (rplain_any bin b (by omega) _).mono ?_
        rintro v M' ch ⟨rfl, rfl, rfl⟩ _
        ((conv => whnf); (repeat ((with_reducible refine Rest.mk ?_); (conv => whnf))))
        rw [same_true]
        ((conv => whnf); (repeat ((with_reducible refine Rest.mk ?_); (conv => whnf))))
        refine (stays_any xs (by omega)).mono ?_
        rintro v M' ch ⟨rfl, rfl⟩ _
        ((conv => whnf); (repeat ((with_reducible refine Rest.mk ?_); (conv => whnf))))
        exact fin.flat (.bool _) ⟨rfl, rfl⟩
      case neg =>
        rw [if_neg hl]
        ((conv => whnf); (repeat ((with_reducible refine Rest.mk ?_); (conv => whnf))))
        rw [d1]
        ((conv => whnf); (repeat ((with_reducible refine Rest.mk ?_); (conv => whnf))))
        rw [d2]
        ((conv => whnf); (repeat ((with_reducible refine Rest.mk ?_); (conv => whnf))))
        rw [show decide ((251:Int) ≤ cmd) = true from decide_eq_true hc.1]
        ((conv => whnf); (repeat ((with_reducible refine Rest.mk ?_); (conv => whnf))))
        rw [show decide (cmd ≤ (254:Int)) = true from decide_eq_true hc.2]
        ((conv => whnf); (repeat ((with_reducible refine Rest.mk ?_); (conv => whnf))))
        refine (roption_any cmd o (by omega) hr _).mono ?_
        rintro v M' ch ⟨rfl, rfl, rfl⟩ _
        ((conv => whnf); (repeat ((with_reducible refine Rest.mk ?_); (conv => whnf))))
        rw [same_true]
        ((conv => whnf); (repeat ((with_reducible refine Rest.mk ?_); (conv => whnf))))
        rw [show decide ((40:Int) < (xs.flatten.length : Int)) = false from decide_eq_false (by omega)]
        ((conv => whnf); (repeat ((with_reducible refine Rest.mk ?_); (conv => whnf))))
        refine (rsub_any o xs.flatten hr (by omega) _).mono ?_
        rintro v M' ch ⟨rfl, rfl, rfl⟩ _
        rw [refData_eq, show wireData true xs.flatten = dbl xs.flatten from rfl]
        ((conv => whnf); (repeat ((with_reducible refine Rest.mk ?_); (conv => whnf))))
        rw [same_true]
        ((conv => whnf); (repeat ((with_reducible refine Rest.mk ?_); (conv => whnf))))
        refine (data_m bin xs (by omega) (by omega) _ rfl).mono ?_
        rintro v M' ch ⟨rfl, rfl, rfl⟩ _
        ((conv => whnf); (repeat ((with_reducible refine Rest.mk ?_); (conv => whnf))))
        refine (rdata_any bin _ (by omega) _).mono ?_
        rintro v M' ch ⟨rfl, rfl, rfl⟩ _
        rw [refData_eq]
        ((conv => whnf); (repeat ((with_reducible refine Rest.mk ?_); (conv => whnf))))
        rw [same_true]
        ((conv => whnf); (repeat ((with_reducible refine Rest.mk ?_); (conv => whnf))))
        refine (wplain_any bin b (by omega) _).mono ?_
        rintro v M' ch ⟨rfl, rfl, rfl⟩ _
        ((conv => whnf); (repeat ((with_reducible refine Rest.mk ?_); (conv => whnf))))
        refine (rplain_any bin b (by omega) _).mono ?_
        rintro v M' ch ⟨rfl, rfl, rfl⟩ _
        ((conv => whnf); (repeat ((with_reducible refine Rest.mk ?_); (conv => whnf))))
        rw [same_true]
        ((conv => whnf); (repeat ((with_reducible refine Rest.mk ?_); (conv => whnf))))
        refine (stays_any xs (by omega)).mono ?_
        rintro v M' ch ⟨rfl, rfl⟩ _
        ((conv => whnf); (repeat ((with_reducible refine Rest.mk ?_); (conv => whnf))))
        exact fin.flat (.bool _) ⟨rfl, rfl⟩
    case neg =>
      rw [if_neg (fun h => hc ⟨h.1, h.2.1⟩)]
      ((conv => whnf); (repeat ((with_reducible refine Rest.mk ?_); (conv => whnf))))
      refine (sub_m o xs (by omega) (by omega) _ rfl).mono ?_
      rintro v M' ch ⟨rfl, rfl, rfl⟩ _
      rw [hsub hr]
      by_cases h3 : 251 ≤ cmd
      case pos =>
        by_cases hl : 40 < xs.flatten.length
        case pos =>
          rw [if_pos hl]
          ((conv => whnf); (repeat ((with_reducible refine Rest.mk ?_); (conv => whnf))))
          rw [d1]
          ((conv => whnf); (repeat ((with_reducible refine Rest.mk ?_); (conv => whnf))))
          rw [d2]
          ((conv => whnf); (repeat ((with_reducible refine Rest.mk ?_); (conv => whnf))))
          rw [show decide ((251:Int) ≤ cmd) = true from decide_eq_true h3]
          ((conv => whnf); (repeat ((with_reducible refine Rest.mk ?_); (conv => whnf))))
          rw [show decide (cmd ≤ (254:Int)) = false from decide_eq_false (fun h => hc ⟨h3, h⟩)]
          ((conv => whnf); (repeat ((with_reducible refine Rest.mk ?_); (conv => whnf))))
          rw [show decide ((40:Int) < (xs.flatten.length : Int)) = true from decide_eq_true (by omega)]
          ((conv => whnf); (repeat ((with_reducible refine Rest.mk ?_); (conv => whnf))))
          refine (data_m bin xs (by omega) (by omega) _ rfl).mono ?_
          rintro v M' ch ⟨rfl, rfl, rfl⟩ _
          ((conv => whnf); (repeat ((with_reducible refine Rest.mk ?_); (conv => whnf))))
          refine (rdata_any bin _ (by omega) _).mono ?_
          rintro v M' ch ⟨rfl, rfl, rfl⟩ _
          rw [refData_eq]
          ((conv => whnf); (repeat ((with_reducible refine Rest.mk ?_); (conv => whnf))))
          rw [same_true]
          ((conv => whnf); (repeat ((with_reducible refine Rest.mk ?_); (conv => whnf))))
          refine (wplain_any bin b (by omega) _).mono ?_
          rintro v M' ch ⟨rfl, rfl, rfl⟩ _
          ((conv => whnf); (repeat ((with_reducible refine Rest.mk ?_); (conv => whnf))))
          refine (rplain_any bin b (by omega) _).mono ?_
          rintro v M' ch ⟨rfl, rfl, rfl⟩ _
          ((conv => whnf); (repeat ((with_reducible refine Rest.mk ?_); (conv => whnf))))
          rw [same_true]
          ((conv => whnf); (repeat ((with_reducible refine Rest.mk ?_); (conv => whnf))))
          refine (stays_any xs (by omega)).mono ?_
          rintro v M' ch ⟨rfl, rfl⟩ _
          ((conv => whnf); (repeat ((with_reducible refine Rest.mk ?_); (conv => whnf))))
          exact fin.flat (.bool _) ⟨rfl, rfl⟩
        case neg =>
          rw [if_neg hl]
          ((conv => whnf); (repeat ((with_reducible refine Rest.mk ?_); (conv => whnf))))
          rw [d1]
          ((conv => whnf); (repeat ((with_reducible refine Rest.mk ?_); (conv => whnf))))
          rw [d2]
          ((conv => whnf); (repeat ((with_reducible refine Rest.mk ?_); (conv => whnf))))
          rw [show decide ((251:Int) ≤ cmd) = true from decide_eq_true h3]
          ((conv => whnf); (repeat ((with_reducible refine Rest.mk ?_); (conv => whnf))))
          rw [show decide (cmd ≤ (254:Int)) = false from decide_eq_false (fun h => hc ⟨h3, h⟩)]
          ((conv => whnf); (repeat ((with_reducible refine Rest.mk ?_); (conv => whnf))))
          rw [show decide ((40:Int) < (xs.flatten.length : Int)) = false from decide_eq_false (by omega)]
          ((conv => whnf); (repeat ((with_reducible refine Rest.mk ?_); (conv => whnf))))
          refine (rsub_any o xs.flatten hr (by omega) _).mono ?_
          rintro v M' ch ⟨rfl, rfl, rfl⟩ _
          rw [refData_eq, show wireData true xs.flatten = dbl xs.flatten from rfl]
          ((conv => whnf); (repeat ((with_reducible refine Rest.mk ?_); (conv => whnf))))
          rw [same_true]
          ((conv => whnf); (repeat ((with_reducible refine Rest.mk ?_); (conv => whnf))))
          refine (data_m bin xs (by omega) (by omega) _ rfl).mono ?_
          rintro v M' ch ⟨rfl, rfl, rfl⟩ _
          ((conv => whnf); (repeat ((with_reducible refine Rest.mk ?_); (conv => whnf))))
          refine (rdata_any bin _ (by omega) _).mono ?_
          rintro v M' ch ⟨rfl, rfl, rfl⟩ _
          rw [refData_eq]
          ((conv => whnf); (repeat ((with_reducible refine Rest.mk ?_); (conv => whnf))))
          rw [same_true]
          ((conv => whnf); (repeat ((with_reducible refine Rest.mk ?_); (conv => whnf))))
          refine (wplain_any bin b (by omega) _).mono ?_
          rintro v M' ch ⟨rfl, rfl, rfl⟩ _
          ((conv => whnf); (repeat ((with_reducible refine Rest.mk ?_); (conv => whnf))))
          refine (rplain_any bin b (by omega) _).mono ?_
          rintro v M' ch ⟨rfl, rfl, rfl⟩ _
          ((conv => whnf); (repeat ((with_reducible refine Rest.mk ?_); (conv => whnf))))
          rw [same_true]
          ((conv => whnf); (repeat ((with_reducible refine Rest.mk ?_); (conv => whnf))))
          refine (stays_any xs (by omega)).mono ?_
          rintro v M' ch ⟨rfl, rfl⟩ _
          ((conv => whnf); (repeat ((with_reducible refine Rest.mk ?_); (conv => whnf))))
          exact fin.flat (.bool _) ⟨rfl, rfl⟩
      case neg =>
        by_cases hl : 40 < xs.flatten.length
        case pos =>
          rw [if_pos hl]
          ((conv => whnf); (repeat ((with_reducible refine Rest.mk ?_); (conv => whnf))))
          rw [d1]
          ((conv => whnf); (repeat ((with_reducible refine Rest.mk ?_); (conv => whnf))))
          rw [d2]
          ((conv => whnf); (repeat ((with_reducible refine Rest.mk ?_); (conv => whnf))))
          rw [show decide ((251:Int) ≤ cmd) = false from decide_eq_false h3]
          ((conv => whnf); (repeat ((with_reducible refine Rest.mk ?_); (conv => whnf))))
          rw [show decide ((40:Int) < (xs.flatten.length : Int)) = true from decide_eq_true (by omega)]
          ((conv => whnf); (repeat ((with_reducible refine Rest.mk ?_); (conv => whnf))))
          refine (data_m bin xs (by omega) (by omega) _ rfl).mono ?_
          rintro v M' ch ⟨rfl, rfl, rfl⟩ _
          ((conv => whnf); (repeat ((with_reducible refine Rest.mk ?_); (conv => whnf))))
          refine (rdata_any bin _ (by omega) _).mono ?_
          rintro v M' ch ⟨rfl, rfl, rfl⟩ _
          rw [refData_eq]
          ((conv => whnf); (repeat ((with_reducible refine Rest.mk ?_); (conv => whnf))))
          rw [same_true]
          ((conv => whnf); (repeat ((with_reducible refine Rest.mk ?_); (conv => whnf))))
          refine (wplain_any bin b (by omega) _).mono ?_
          rintro v M' ch ⟨rfl, rfl, rfl⟩ _
          ((conv => whnf); (repeat ((with_reducible refine Rest.mk ?_); (conv => whnf))))
          refine (rplain_any bin b (by omega) _).mono ?_
          rintro v M' ch ⟨rfl, rfl, rfl⟩ _
          ((conv => whnf); (repeat ((with_reducible refine Rest.mk ?_); (conv => whnf))))
          rw [same_true]
          ((conv => whnf); (repeat ((with_reducible refine Rest.mk ?_); (conv => whnf))))
          refine (stays_any xs (by omega)).mono ?_
          rintro v M' ch ⟨rfl, rfl⟩ _
          ((conv => whnf); (repeat ((with_reducible refine Rest.mk ?_); (conv => whnf))))
          exact fin.flat (.bool _) ⟨rfl, rfl⟩
        case neg =>
          rw [if_neg hl]
          ((conv => whnf); (repeat ((with_reducible refine Rest.mk ?_); (conv => whnf))))
          rw [d1]
          ((conv => whnf); (repeat ((with_reducible refine Rest.mk ?_); (conv => whnf))))
          rw [d2]
          ((conv => whnf); (repeat ((with_reducible refine Rest.mk ?_); (conv => whnf))))
          rw [show decide ((251:Int) ≤ cmd) = false from decide_eq_false h3]
          ((conv => whnf); (repeat ((with_reducible refine Rest.mk ?_); (conv => whnf))))
          rw [show decide ((40:Int) < (xs.flatten.length : Int)) = false from decide_eq_false (by omega)]
          ((conv => whnf); (repeat ((with_reducible refine Rest.mk ?_); (conv => whnf))))
          refine (rsub_any o xs.flatten hr (by omega) _).mono ?_
          rintro v M' ch ⟨rfl, rfl, rfl⟩ _
          rw [refData_eq, show wireData true xs.flatten = dbl xs.flatten from rfl]
          ((conv => whnf); (repeat ((with_reducible refine Rest.mk ?_); (conv => whnf))))
          rw [same_true]
          ((conv => whnf); (repeat ((with_reducible refine Rest.mk ?_); (conv => whnf))))
          refine (data_m bin xs (by omega) (by omega) _ rfl).mono ?_
          rintro v M' ch ⟨rfl, rfl, rfl⟩ _
          ((conv => whnf); (repeat ((with_reducible refine Rest.mk ?_); (conv => whnf))))
          refine (rdata_any bin _ (by omega) _).mono ?_
          rintro v M' ch ⟨rfl, rfl, rfl⟩ _
          rw [refData_eq]
          ((conv => whnf); (repeat ((with_reducible refine Rest.mk ?_); (conv => whnf))))
          rw [same_true]
          ((conv => whnf); (repeat ((with_reducible refine Rest.mk ?_); (conv => whnf))))
          refine (wplain_any bin b (by omega) _).mono ?_
          rintro v M' ch ⟨rfl, rfl, rfl⟩ _
          ((conv => whnf); (repeat ((with_reducible refine Rest.mk ?_); (conv => whnf))))
          refine (rplain_any bin b (by omega) _).mono ?_
          rintro v M' ch ⟨rfl, rfl, rfl⟩ _
          ((conv => whnf); (repeat ((with_reducible refine Rest.mk ?_); (conv => whnf))))
          rw [same_true]
          ((conv => whnf); (repeat ((with_reducible refine Rest.mk ?_); (conv => whnf))))
          refine (stays_any xs (by omega)).mono ?_
          rintro v M' ch ⟨rfl, rfl⟩ _
          ((conv => whnf); (repeat ((with_reducible refine Rest.mk ?_); (conv => whnf))))
          exact fin.flat (.bool _) ⟨rfl, rfl⟩
  case neg =>
    rw [if_neg (fun h => hr h.2.2)]
    ((conv => whnf); (repeat ((with_reducible refine Rest.mk ?_); (conv => whnf))))
    refine (sub_m o xs (by omega) (by omega) _ rfl).mono ?_
    rintro v M' ch ⟨rfl, rfl, rfl⟩ _
    rw [show wireSub o xs.flatten = .tup [.str [], .int .i64 1] by unfold wireSub; rw [if_pos (by omega)]]
    ((conv => whnf); (repeat ((with_reducible refine Rest.mk ?_); (conv => whnf))))
    by_cases h3 : 0 ≤ o
    case pos =>
      rw [show decide ((0:Int) ≤ o) = true from decide_eq_true h3]
      ((conv => whnf); (repeat ((with_reducible refine Rest.mk ?_); (conv => whnf))))
      rw [show decide (o ≤ (255:Int)) = false from decide_eq_false (fun h => hr ⟨h3, h⟩)]
      ((conv => whnf); (repeat ((with_reducible refine Rest.mk ?_); (conv => whnf))))
      refine (data_m bin xs (by omega) (by omega) _ rfl).mono ?_
      rintro v M' ch ⟨rfl, rfl, rfl⟩ _
      ((conv => whnf); (repeat ((with_reducible refine Rest.mk ?_); (conv => whnf))))
      refine (rdata_any bin _ (by omega) _).mono ?_
      rintro v M' ch ⟨rfl, rfl, rfl⟩ _
      rw [refData_eq]
      ((conv => whnf); (repeat ((with_reducible refine Rest.mk ?_); (conv => whnf))))
      rw [same_true]
      ((conv => whnf); (repeat ((with_reducible refine Rest.mk ?_); (conv => whnf))))
      refine (wplain_any bin b (by omega) _).mono ?_
      rintro v M' ch ⟨rfl, rfl, rfl⟩ _
      ((conv => whnf); (repeat ((with_reducible refine Rest.mk ?_); (conv => whnf))))
      refine (rplain_any bin b (by omega) _).mono ?_
      rintro v M' ch ⟨rfl, rfl, rfl⟩ _
      ((conv => whnf); (repeat ((with_reducible refine Rest.mk ?_); (conv => whnf))))
      rw [same_true]
      ((conv => whnf); (repeat ((with_reducible refine Rest.mk ?_); (conv => whnf))))
      refine (stays_any xs (by omega)).mono ?_
      rintro v M' ch ⟨rfl, rfl⟩ _
      ((conv => whnf); (repeat ((with_reducible refine Rest.mk ?_); (conv => whnf))))
      exact fin.flat (.bool _) ⟨rfl, rfl⟩
    case neg =>
      rw [show decide ((0:Int) ≤ o) = false from decide_eq_false h3]
      ((conv => whnf); (repeat ((with_reducible refine Rest.mk ?_); (conv => whnf))))
      refine (data_m bin xs (by omega) (by omega) _ rfl).mono ?_
      rintro v M' ch ⟨rfl, rfl, rfl⟩ _
      ((conv => whnf); (repeat ((with_reducible refine Rest.mk ?_); (conv => whnf))))
      refine (rdata_any bin _ (by omega) _).mono ?_
      rintro v M' ch ⟨rfl, rfl, rfl⟩ _
      rw [refData_eq]
      ((conv => whnf); (repeat ((with_reducible refine Rest.mk ?_); (conv => whnf))))
      rw [same_true]
      ((conv => whnf); (repeat ((with_reducible refine Rest.mk ?_); (conv => whnf))))
      refine (wplain_any bin b (by omega) _).mono ?_
      rintro v M' ch ⟨rfl, rfl, rfl⟩ _
      ((conv => whnf); (repeat ((with_reducible refine Rest.mk ?_); (conv => whnf))))
      refine (rplain_any bin b (by omega) _).mono ?_
      rintro v M' ch ⟨rfl, rfl, rfl⟩ _
      ((conv => whnf); (repeat ((with_reducible refine Rest.mk ?_); (conv => whnf))))
      rw [same_true]
      ((conv => whnf); (repeat ((with_reducible refine Rest.mk ?_); (conv => whnf))))
      refine (stays_any xs (by omega)).mono ?_
      rintro v M' ch ⟨rfl, rfl⟩ _
      ((conv => whnf); (repeat ((with_reducible refine Rest.mk ?_); (conv => whnf))))
      exact fin.flat (.bool _) ⟨rfl, rfl⟩
end Go.Am
end
section
namespace Go.Am
open Go Go.Proofs Go.RowKit Go.ChangeShapes Go.WideShapes Go.ChangeAt

section
variable {O : Type} {unf : O → List (AO O)} {P : Program}

/-- in a world that is shaped the library's variables hold what they may -/
theorem globs_ok {W : World} (hsh : W.ShapedOpen Tryd.prog) : ∀ b p, (b, p) ∈ globs → ∃ A, (allImm W).imm b = some A ∧ p A := by
  intro b p hb
  have e : globs = [(0, fun A => ∃ m, A[0]? = some (.int .i64 m))] := rfl
  rw [e] at hb
  simp only [List.mem_singleton, Prod.mk.injEq] at hb
  obtain ⟨rfl, rfl⟩ := hb
  obtain ⟨m, hm⟩ := Tryd.laysM155.s1_3 W hsh
  have hm : W.cell? ⟨0, 0, none⟩ = some (.int .i64 m) := hm
  unfold World.cell? at hm
  split at hm
  · rename_i c t fz hc
    simp at hm
    exact ⟨c, allImm_of hc, m, by simpa using hm⟩
  · cases hm

theorem start_rep {W : World} (hg : ∀ b p, (b, p) ∈ globs → ∃ A, (allImm W).imm b = some A ∧ p A) : Rep unf (allImm W) [] W (fun _ => False) where
  dom _ _ := rfl
  own := ⟨fun _ _ => False, fun i h => by simp at h, fun _ _ _ _ h => h.elim, fun _ _ h => h⟩
  lt _ h := h.elim
  imm b A h := by
    refine ⟨id, ?_⟩
    simp only [allImm] at h
    split at h
    · rename_i A' t fz hA
      cases h; exact ⟨t, fz, hA, trivial⟩
    · cases h
  glob := hg

/-- the law answers true, and leaves all that was as it was -/
theorem law_calls {f : FuncId} {args : List AV} {cargs : Array Value} {W : World} (hcall : ∀ (args : Array Value) (w : World), (callFunc f args).run P w = .ok (.enter f args) w)
    (hg : ∀ b p, (b, p) ∈ globs → ∃ A, (allImm W).imm b = some A ∧ p A) (hv : VRelL (allImm W) args cargs) (spec : CallT unf P f args [] fun v M' _ => v = .bool true ∧ M' = []) :
    Calls P f cargs W fun e W' => e = .returned (.bool true) ∧ Below W.heap.size W W' := by
  rcases spec (allImm W) (fun _ => False) W cargs (start_rep hg) hv with ⟨cv, w', hrun, _⟩ | ⟨_, hc⟩
  · rw [hcall] at hrun; cases hrun
  · refine hc.mono ?_
    rintro e w' ⟨cv, rfl, κ', S', v, M', ch, ⟨rfl, rfl⟩, hR', hv', hP, _⟩
    obtain rfl := hv'.bool_inv
    exact ⟨rfl, ⟨hP.rest.2.1, hP.rest.1, hP.rest.2.2, hP.grow, fun k hk => hP.same k hk id⟩⟩

theorem cell_block {w : World} {b o : Nat} {v : Value} (h : w.cell? ⟨b, o, none⟩ = some v) : ∃ A t fz, w.heap[b]? = some (.cells A t fz) ∧ A[o]? = some v := by
  unfold World.cell? at h
  split at h
  · rename_i c t fz hc
    exact ⟨c, t, fz, hc, by simpa using h⟩
  · cases h
theorem cell_spot {w : World} {a : Addr} {v : Value} (h : w.cell? a = some v) : a = ⟨a.block, a.off, none⟩ := by
  obtain ⟨b, o, s⟩ := a
  cases s with
  | none => rfl
  | some x =>
    unfold World.cell? at h
    split at h
    · simp at h
    · cases h

/-- a slice of one-cell values, as a row that nobody writes -/
theorem rel_row {W : World} {a : Addr} {len cap : Nat} {l : List AV} {f : Nat → Value} (hl : l.length = len) (hc : len ≤ cap) (hcell : ∀ i, i < len → W.cell? (a.add i) = some (f i) ∧ one (f i)) (hv : ∀ i (h : i < l.length), VRel (allImm W) l[i] (f i)) : VRel (allImm W) (.vs l len) (.slice (some a) len cap) := by
  by_cases h0 : len = 0
  · subst h0
    obtain rfl : l = [] := List.length_eq_zero_iff.1 hl
    exact .vs0
  · have h1 := (hcell 0 (by omega)).1
    have e0 : a.add 0 = a := by simp [Addr.add]
    rw [e0] at h1
    have ha := cell_spot h1
    rw [ha] at h1 ⊢
    obtain ⟨A, t, fz, hA, _⟩ := cell_block h1
    refine .vs f hc (allImm_of hA) (fun i hi => ?_) hv
    obtain ⟨h2, h3⟩ := hcell i (by omega)
    rw [ha, addr_add] at h2
    rw [cell_of hA] at h2
    exact ⟨h2, h3⟩

variable {H : Type} {enc : TypeId × Value → H}

theorem rel_strs {W : World} {t e : TypeId} {v : Value} {d : DataW H} {ps : List MemPlace} {base : Nat} {spare : Nat → Bool} {held : Bool} (ht : P.underlying t = some (.slice e)) (he : P.underlying e = some .string) (hc : P.cellsOf e = 1) (hcs : ∀ q len cap, v = .slice q len cap → v.cells = #[v])
    (hsl : ∃ q len cap, v = .slice q len cap) (h : DataW.Trod enc P W base spare held t v d ps) : ∃ xs : List (List UInt8), VRel (allImm W) (.vs (xs.map .str) xs.length) v := by
  obtain ⟨fuel, hf⟩ := h
  obtain ⟨q, len, cap, rfl⟩ := hsl
  have hf : DataW.trod enc P W base spare held fuel t [.slice q len cap] = some (d, ps) := by simpa [Value.cells] using hf
  rcases Go.Deep.open_strs ht he hc hf with ⟨h1, _⟩ | ⟨a, len', cap', m, Sx, h1, _, h2, _, hm, _, hcell⟩
  · simp only [List.cons.injEq, and_true] at h1
    rw [h1]
    exact ⟨[], .vs0⟩
  · simp only [List.cons.injEq, and_true] at h1
    rw [h1]
    have hlm : len' ≤ m := by rw [hm]; split <;> omega
    refine ⟨(List.range len').map fun i => (Sx i).data.toList, ?_⟩
    have hn : ((List.range len').map fun i => (Sx i).data.toList).length = len' := by simp
    rw [hn]
    refine rel_row (f := fun i => .string (Sx i)) (by simp) h2 (fun i hi => ⟨(hcell i (by omega)).1, rfl⟩) fun i hi => ?_
    simp only [List.length_map, List.length_range] at hi
    simp only [List.getElem_map, List.getElem_range]
    exact .str _

theorem args_stay {ts : List TypeId} {vs : List Value} {ds : List (DataW H)} {ps : List MemPlace} {W W' : World} (hl : laidOutB P = true) (hr : ∀ t, t ∈ ts → P.readableRec t = true ∧ t < P.types.size) (h : DataW.TrodAll enc P W 0 (fun _ => true) true ts vs ds ps)
    (hb : Below W.heap.size W W') (hlt : ∀ x, x ∈ ps → x.block < W.heap.size) (sp : Nat → Bool) (hs : ∀ p, p ∈ ps → sp p.block = true) : DataW.TrodAll enc P W' 0 sp true ts vs ds ps := by
  induction ts generalizing vs ds ps with
  | nil =>
    obtain ⟨rfl, rfl, rfl⟩ := trodAll_nil h
    exact h
  | cons t ts ih =>
    obtain ⟨v, vs1, d, ds1, a, b, rfl, rfl, rfl, h1, h2⟩ := trodAll_cons h
    exact ⟨a, b, WideElems.Trod_stays hl (hr t (by simp)).1 (hr t (by simp)).2 h1 (fun x hx => hb.same (hlt x (by simp [hx]))) (fun p hp => hs p (by simp [hp])),
      ih (fun t ht => hr t (by simp [ht])) h2 (fun x hx => hlt x (by simp [hx])) (fun p hp => hs p (by simp [hp])), rfl⟩

/-- what a law's row asks behind the call -/
theorem law_post {fn : Func} {s : ChangeSpec} {W W' : World} {args : Array Value} {ds gs : List (DataW H)} {before : List MemPlace} {bt : TypeId} (hl : laidOutB P = true) (hr : ∀ t, t ∈ fn.params.toList → P.readableRec t = true ∧ t < P.types.size) (hvars : s.vars = [])
    (hW : DataW.Whole enc P fn.params.toList s.vars false W args.toList ds gs before) (hrt : fn.resultTypes = #[bt]) (hbt : P.underlying bt = some .bool)
    (hs : s.fn H (ds ++ gs) = { results := [.lit (.bool true)], args := ds }) (hb : Below W.heap.size W W') : s.post enc P fn false true false false W args (.bool true) W' := by
  have hlt := hW.lt
  have hW' := hW
  obtain ⟨p, q, hA, hV, rfl, hfz, hnd⟩ := hW
  rw [hvars] at hV
  obtain ⟨rfl, rfl⟩ := trodVars_none hV
  refine ⟨ds, [], p ++ [], [], p, [], hW', ?_, ?_, ?_, ?_, fun h => by cases h⟩
  · rw [hs, hrt]
    exact trodAll_cons_mk (shut_bool hbt _) trodAll_mk0
  · rw [hs]
    exact args_stay hl hr hA hb (fun x hx => hlt x (by simp [hx])) _ (fun x hx => by simpa using hlt x (by simp [hx]))
  · rw [hs, hvars]; exact hV
  · exact hb.frame _
end
end Go.Am
end
