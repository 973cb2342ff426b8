/-
  Part 9 of a proof: an abstract machine for the program, and what pieces of the program compute (WTells, WBack, WTok, WBack2, Law, Law2). No condition of its own.
-/
import Derived.Test.YtpclplbogmpojaaDoorB8
import Derived.Carry
import Derived.Deep.Strs
import Derived.ChangeSlices
import Derived.OpenShut
import Derived.ProofKit
import Derived.ChangeSame
set_option linter.unusedSimpArgs false
set_option linter.unusedVariables false
section
set_option linter.unusedSimpArgs false
namespace Go.Am
open Go Go.Proofs

set_option maxRecDepth 100000
attribute [local irreducible] CallT Ent pushA

theorem same_true (x : List UInt8) : decide (x = x) = true := decide_eq_true rfl

/-- the texts lent, and one mark behind them -/
def mrow (xs : List (List UInt8)) : AO Ob := .cells (some 1) ((xs ++ [markB]).map .str)

theorem flat_m (xs : List (List UInt8)) (M : Mem Ob) (h : M[0]? = some (mrow xs)) : Lend M (.vs (xs.map .str) xs.length) (.sl 0 0 xs.length (xs.length + 1)) := by
  refine .sl (z := 1) h (by simp) (flat_texts _) (fun i hi => ?_)
  simp at hi
  simp [List.getElem?_append_left, hi]

theorem free_tup2 (s : List UInt8) (n : Int) : Free (.tup [.str s, .int .i64 n]) := .tupL (by intro v hv; simp at hv; rcases hv with rfl | rfl <;> constructor)

theorem option_any (cmd o : Int) (M : Mem Ob) : T 13 [.int .i64 cmd, .int .i64 o] M (fun v M' ch => v = (if 251 ≤ cmd ∧ cmd ≤ 254 ∧ 0 ≤ o ∧ o ≤ 255 then .tup [.str [255, UInt8.ofNat cmd.toNat, UInt8.ofNat o.toNat], .int .i64 0] else .tup [.str [], .int .i64 1]) ∧ M' = M ∧ ch = []) :=
  ((option_ok cmd o).mono fun v M' ch h _ => ⟨h.1, h.2.1⟩).lend (by rintro v rfl; split <;> exact free_tup2 _ _) (.cons (.flat (.int _ _)) (.cons (.flat (.int _ _)) .nil))
theorem roption_any (cmd o : Int) (h1 : 0 ≤ cmd ∧ cmd ≤ 255) (h2 : 0 ≤ o ∧ o ≤ 255) (M : Mem Ob) : T 15 [.int .i64 cmd, .int .i64 o] M (fun v M' ch => v = .str [255, UInt8.ofNat cmd.toNat, UInt8.ofNat o.toNat] ∧ M' = M ∧ ch = []) :=
  (roption_ok cmd o h1 h2).lend (by rintro v rfl; exact .flat (.str _)) (.cons (.flat (.int _ _)) (.cons (.flat (.int _ _)) .nil))
theorem free_sub (o : Int) (s : List UInt8) : Free (wireSub o s) := by
  unfold wireSub
  repeat' split
  all_goals exact free_tup2 _ _
theorem sub_m (o : Int) (xs : List (List UInt8)) (hx : xs.length ≤ 1000000) (hl : xs.flatten.length ≤ 1000000) (M : Mem Ob) (h : M[0]? = some (mrow xs)) :
    T 14 [.int .i64 o, .sl 0 0 xs.length (xs.length + 1)] M (fun v M' ch => v = wireSub o xs.flatten ∧ M' = M ∧ ch = []) :=
  ((sub_ok o xs hx hl).mono fun v M' ch h _ => ⟨h.1, h.2.1⟩).lend (by rintro v rfl; exact free_sub _ _) (.cons (.flat (.int _ _)) (.cons (flat_m xs M h) .nil))
theorem data_m (bin : Bool) (xs : List (List UInt8)) (hx : xs.length ≤ 1000000) (hl : xs.flatten.length ≤ 1000000) (M : Mem Ob) (h : M[0]? = some (mrow xs)) :
    T 7 [.bool bin, .sl 0 0 xs.length (xs.length + 1)] M (fun v M' ch => v = .str (wireData bin xs.flatten) ∧ M' = M ∧ ch = []) :=
  ((data0_ok bin xs hx hl).mono fun v M' ch h _ => ⟨h.1, h.2.1⟩).lend (by rintro v rfl; exact .flat (.str _)) (.cons (.flat (.bool _)) (.cons (flat_m xs M h) .nil))
theorem rsub_any (o : Int) (s : List UInt8) (h : 0 ≤ o ∧ o ≤ 255) (hl : s.length ≤ 1000000) (M : Mem Ob) : T 16 [.int .i64 o, .str s] M (fun v M' ch => v = .str ([255, 250, UInt8.ofNat o.toNat] ++ refData true s ++ [255, 240]) ∧ M' = M ∧ ch = []) :=
  (rsubm_ok o s h hl).lend (by rintro v rfl; exact .flat (.str _)) (.cons (.flat (.int _ _)) (.cons (.flat (.str _)) .nil))
theorem rdata_any (bin : Bool) (s : List UInt8) (hl : s.length ≤ 1000000) (M : Mem Ob) : T 17 [.bool bin, .str s] M (fun v M' ch => v = .str (refData bin s) ∧ M' = M ∧ ch = []) :=
  (rdata_ok bin s hl).lend (by rintro v rfl; exact .flat (.str _)) (.cons (.flat (.bool _)) (.cons (.flat (.str _)) .nil))
theorem join_any (xs : List (List UInt8)) (hn : xs.length ≤ 1000000) (hl : xs.flatten.length ≤ 1000000) (M : Mem Ob) : T 12 [.vs (xs.map .str) xs.length] M (fun v M' ch => v = .str xs.flatten ∧ M' = M ∧ ch = []) :=
  (bjoin_ok xs hn hl).lend (by rintro v rfl; exact .flat (.str _)) (.cons (.vs (flat_texts _)) .nil)
theorem stays_any (xs : List (List UInt8)) (hn : xs.length ≤ 1000000) : T 18 [.sl 0 0 xs.length (xs.length + 1), .vs (xs.map .str) xs.length] [mrow xs] (fun v M' ch => v = .bool true ∧ M' = [mrow xs]) := stays_ok xs hn

theorem tells_ok (bin : Bool) (xs : List (List UInt8)) (cmd o : Int) (b : List UInt8) : T 4 [.bool bin, .vs (xs.map .str) xs.length, .int .i64 cmd, .int .i64 o, .str b] [] (fun v M' _ => v = .bool true ∧ M' = []) := by
  refine CallT.by_body Tryd.func4 rfl Tryd.call4 rfl (.refl _ _ _) ?_
  have htrue : ∀ (M : Mem Ob), fin unfW 0 [] (fun v M' _ => v = .bool true ∧ M' = []) (.bool true) M := fun M => fin.flat (.bool _) ⟨rfl, rfl⟩
  ((conv => whnf); (repeat ((with_reducible refine Rest.mk ?_); (conv => whnf))))
  refine (short_ok 20 600 xs (by omega) (by omega)).mono ?_
  rintro v M' ch ⟨rfl, rfl⟩ _
  by_cases hs : xs.length ≤ 20 ∧ xs.flatten.length ≤ 600
  case neg =>
    rw [decide_eq_false hs]
    ((conv => whnf); (repeat ((with_reducible refine Rest.mk ?_); (conv => whnf))))
    refine alive_ok.mono ?_
    rintro v M' ch ⟨rfl, rfl⟩ _
    ((conv => whnf); (repeat ((with_reducible refine Rest.mk ?_); (conv => whnf))))
    exact htrue _
  rw [decide_eq_true hs]
  obtain ⟨hs1, hs2⟩ := hs
  ((conv => whnf); (repeat ((with_reducible refine Rest.mk ?_); (conv => whnf))))
  refine testK_split (fun h => ?_) (fun h => ?_) <;> ((conv => whnf); (repeat ((with_reducible refine Rest.mk ?_); (conv => whnf))))
  · refine alive_ok.mono ?_
    rintro v M' ch ⟨rfl, rfl⟩ _
    ((conv => whnf); (repeat ((with_reducible refine Rest.mk ?_); (conv => whnf))))
    exact htrue _
  have hb : b.length ≤ 600 := by simp at h; omega
  refine alive_ok.mono ?_
  rintro v M' ch ⟨rfl, rfl⟩ _
  ((conv => whnf); (repeat ((with_reducible refine Rest.mk ?_); (conv => whnf))))
  refine (lent_ok xs (by omega)).mono ?_
  rintro v M' ch ⟨rfl, rfl⟩ _
  ((conv => whnf); (repeat ((with_reducible refine Rest.mk ?_); (conv => whnf))))
  refine (join_any xs (by omega) (by omega) _).mono ?_
  rintro v M' ch ⟨rfl, rfl, rfl⟩ _
  ((conv => whnf); (repeat ((with_reducible refine Rest.mk ?_); (conv => whnf))))
  refine (option_any cmd o _).mono ?_
  rintro v M' ch ⟨rfl, rfl, rfl⟩ _
  have hsub : ∀ (h : 0 ≤ o ∧ o ≤ 255), wireSub o xs.flatten = if 40 < xs.flatten.length then .tup [.str [], .int .i64 4] else .tup [.str ([255, 250, UInt8.ofNat o.toNat] ++ dbl xs.flatten ++ [255, 240]), .int .i64 0] := fun h => by unfold wireSub; rw [if_neg (by omega)]
  by_cases hr : 0 ≤ o ∧ o ≤ 255
  case pos =>
    have d1 : decide ((0:Int) ≤ o) = true := decide_eq_true hr.1
    have d2 : decide (o ≤ (255:Int)) = true := decide_eq_true hr.2
    by_cases hc : 251 ≤ cmd ∧ cmd ≤ 254
    case pos =>
      rw [if_pos ⟨hc.1, hc.2, hr⟩]
      ((conv => whnf); (repeat ((with_reducible refine Rest.mk ?_); (conv => whnf))))
      refine (sub_m o xs (by omega) (by omega) _ rfl).mono ?_
      rintro v M' ch ⟨rfl, rfl, rfl⟩ _
      rw [hsub hr]
      by_cases hl : 40 < xs.flatten.length
      case pos =>
        rw [if_pos hl]
        ((conv => whnf); (repeat ((with_reducible refine Rest.mk ?_); (conv => whnf))))
        rw [d1]
        ((conv => whnf); (repeat ((with_reducible refine Rest.mk ?_); (conv => whnf))))
        rw [d2]
        ((conv => whnf); (repeat ((with_reducible refine Rest.mk ?_); (conv => whnf))))
        rw [show decide ((251:Int) ≤ cmd) = true from decide_eq_true hc.1]
        ((conv => whnf); (repeat ((with_reducible refine Rest.mk ?_); (conv => whnf))))
        rw [show decide (cmd ≤ (254:Int)) = true from decide_eq_true hc.2]
        ((conv => whnf); (repeat ((with_reducible refine Rest.mk ?_); (conv => whnf))))
        refine (roption_any cmd o (by omega) hr _).mono ?_
        rintro v M' ch ⟨rfl, rfl, rfl⟩ _
        ((conv => whnf); (repeat ((with_reducible refine Rest.mk ?_); (conv => whnf))))
        rw [same_true]
        ((conv => whnf); (repeat ((with_reducible refine Rest.mk ?_); (conv => whnf))))
        rw [show decide ((40:Int) < (xs.flatten.length : Int)) = true from decide_eq_true (by omega)]
        ((conv => whnf); (repeat ((with_reducible refine Rest.mk ?_); (conv => whnf))))
        refine (data_m bin xs (by omega) (by omega) _ rfl).mono ?_
        rintro v M' ch ⟨rfl, rfl, rfl⟩ _
        ((conv => whnf); (repeat ((with_reducible refine Rest.mk ?_); (conv => whnf))))
        refine (rdata_any bin _ (by omega) _).mono ?_
        rintro v M' ch ⟨rfl, rfl, rfl⟩ _
        rw [refData_eq]
        ((conv => whnf); (repeat ((with_reducible refine Rest.mk ?_); (conv => whnf))))
        rw [same_true]
        ((conv => whnf); (repeat ((with_reducible refine Rest.mk ?_); (conv => whnf))))
        refine (wplain_any bin b (by omega) _).mono ?_
        rintro v M' ch ⟨rfl, rfl, rfl⟩ _
        ((conv => whnf); (repeat ((with_reducible refine Rest.mk ?_); (conv => whnf))))
        refine (rplain_any bin b (by omega) _).mono ?_
        rintro v M' ch ⟨rfl, rfl, rfl⟩ _
        ((conv => whnf); (repeat ((with_reducible refine Rest.mk ?_); (conv => whnf))))
        rw [same_true]
        ((conv => whnf); (repeat ((with_reducible refine Rest.mk ?_); (conv => whnf))))
        refine (stays_any xs (by omega)).mono ?_
        rintro v M' ch ⟨rfl, rfl⟩ _
        ((conv => whnf); (repeat ((with_reducible refine Rest.mk ?_); (conv => whnf))))
        exact fin.flat (.bool _) ⟨rfl, rfl⟩
      case neg =>
        rw [if_neg hl]
        ((conv => whnf); (repeat ((with_reducible refine Rest.mk ?_); (conv => whnf))))
        rw [d1]
        ((conv => whnf); (repeat ((with_reducible refine Rest.mk ?_); (conv => whnf))))
        rw [d2]
        ((conv => whnf); (repeat ((with_reducible refine Rest.mk ?_); (conv => whnf))))
        rw [show decide ((251:Int) ≤ cmd) = true from decide_eq_true hc.1]
        ((conv => whnf); (repeat ((with_reducible refine Rest.mk ?_); (conv => whnf))))
        rw [show decide (cmd ≤ (254:Int)) = true from decide_eq_true hc.2]
        ((conv => whnf); (repeat ((with_reducible refine Rest.mk ?_); (conv => whnf))))
        refine (roption_any cmd o (by omega) hr _).mono ?_
        rintro v M' ch ⟨rfl, rfl, rfl⟩ _
        ((conv => whnf); (repeat ((with_reducible refine Rest.mk ?_); (conv => whnf))))
        rw [same_true]
        ((conv => whnf); (repeat ((with_reducible refine Rest.mk ?_); (conv => whnf))))
        rw [show decide ((40:Int) < (xs.flatten.length : Int)) = false from decide_eq_false (by omega)]
        ((conv => whnf); (repeat ((with_reducible refine Rest.mk ?_); (conv => whnf))))
        refine (rsub_any o xs.flatten hr (by omega) _).mono ?_
        rintro v M' ch ⟨rfl, rfl, rfl⟩ _
        rw [refData_eq, show wireData true xs.flatten = dbl xs.flatten from rfl]
        ((conv => whnf); (repeat ((with_reducible refine Rest.mk ?_); (conv => whnf))))
        rw [same_true]
        ((conv => whnf); (repeat ((with_reducible refine Rest.mk ?_); (conv => whnf))))
        refine (data_m bin xs (by omega) (by omega) _ rfl).mono ?_
        rintro v M' ch ⟨rfl, rfl, rfl⟩ _
        ((conv => whnf); (repeat ((with_reducible refine Rest.mk ?_); (conv => whnf))))
        refine (rdata_any bin _ (by omega) _).mono ?_
        rintro v M' ch ⟨rfl, rfl, rfl⟩ _
        rw [refData_eq]
        ((conv => whnf); (repeat ((with_reducible refine Rest.mk ?_); (conv => whnf))))
        rw [same_true]
        ((conv => whnf); (repeat ((with_reducible refine Rest.mk ?_); (conv => whnf))))
        refine (wplain_any bin b (by omega) _).mono ?_
        rintro v M' ch ⟨rfl, rfl, rfl⟩ _
        ((conv => whnf); (repeat ((with_reducible refine Rest.mk ?_); (conv => whnf))))
        refine (rplain_any bin b (by omega) _).mono ?_
        rintro v M' ch ⟨rfl, rfl, rfl⟩ _
        ((conv => whnf); (repeat ((with_reducible refine Rest.mk ?_); (conv => whnf))))
        rw [same_true]
        ((conv => whnf); (repeat ((with_reducible refine Rest.mk ?_); (conv => whnf))))
        refine (stays_any xs (by omega)).mono ?_
        rintro v M' ch ⟨rfl, rfl⟩ _
        ((conv => whnf); (repeat ((with_reducible refine Rest.mk ?_); (conv => whnf))))
        exact fin.flat (.bool _) ⟨rfl, rfl⟩
    case neg =>
      rw [if_neg (fun h => hc ⟨h.1, h.2.1⟩)]
      ((conv => whnf); (repeat ((with_reducible refine Rest.mk ?_); (conv => whnf))))
      refine (sub_m o xs (by omega) (by omega) _ rfl).mono ?_
      rintro v M' ch ⟨rfl, rfl, rfl⟩ _
      rw [hsub hr]
      by_cases h3 : 251 ≤ cmd
      case pos =>
        by_cases hl : 40 < xs.flatten.length
        case pos =>
          rw [if_pos hl]
          ((conv => whnf); (repeat ((with_reducible refine Rest.mk ?_); (conv => whnf))))
          rw [d1]
          ((conv => whnf); (repeat ((with_reducible refine Rest.mk ?_); (conv => whnf))))
          rw [d2]
          ((conv => whnf); (repeat ((with_reducible refine Rest.mk ?_); (conv => whnf))))
          rw [show decide ((251:Int) ≤ cmd) = true from decide_eq_true h3]
          ((conv => whnf); (repeat ((with_reducible refine Rest.mk ?_); (conv => whnf))))
          rw [show decide (cmd ≤ (254:Int)) = false from decide_eq_false (fun h => hc ⟨h3, h⟩)]
          ((conv => whnf); (repeat ((with_reducible refine Rest.mk ?_); (conv => whnf))))
          rw [show decide ((40:Int) < (xs.flatten.length : Int)) = true from decide_eq_true (by omega)]
          ((conv => whnf); (repeat ((with_reducible refine Rest.mk ?_); (conv => whnf))))
          refine (data_m bin xs (by omega) (by omega) _ rfl).mono ?_
          rintro v M' ch ⟨rfl, rfl, rfl⟩ _
          ((conv => whnf); (repeat ((with_reducible refine Rest.mk ?_); (conv => whnf))))
          refine (rdata_any bin _ (by omega) _).mono ?_
          rintro v M' ch ⟨rfl, rfl, rfl⟩ _
          rw [refData_eq]
          ((conv => whnf); (repeat ((with_reducible refine Rest.mk ?_); (conv => whnf))))
          rw [same_true]
          ((conv => whnf); (repeat ((with_reducible refine Rest.mk ?_); (conv => whnf))))
          refine (wplain_any bin b (by omega) _).mono ?_
          rintro v M' ch ⟨rfl, rfl, rfl⟩ _
          ((conv => whnf); (repeat ((with_reducible refine Rest.mk ?_); (conv => whnf))))
          refine (rplain_any bin b (by omega) _).mono ?_
          rintro v M' ch ⟨rfl, rfl, rfl⟩ _
          ((conv => whnf); (repeat ((with_reducible refine Rest.mk ?_); (conv => whnf))))
          rw [same_true]
          ((conv => whnf); (repeat ((with_reducible refine Rest.mk ?_); (conv => whnf))))
          refine (stays_any xs (by omega)).mono ?_
          rintro v M' ch ⟨rfl, rfl⟩ _
          ((conv => whnf); (repeat ((with_reducible refine Rest.mk ?_); (conv => whnf))))
          exact fin.flat (.bool _) ⟨rfl, rfl⟩
        case neg =>
          rw [if_neg hl]
          ((conv => whnf); (repeat ((with_reducible refine Rest.mk ?_); (conv => whnf))))
          rw [d1]
          ((conv => whnf); (repeat ((with_reducible refine Rest.mk ?_); (conv => whnf))))
          rw [d2]
          ((conv => whnf); (repeat ((with_reducible refine Rest.mk ?_); (conv => whnf))))
          rw [show decide ((251:Int) ≤ cmd) = true from decide_eq_true h3]
          ((conv => whnf); (repeat ((with_reducible refine Rest.mk ?_); (conv => whnf))))
          rw [show decide (cmd ≤ (254:Int)) = false from decide_eq_false (fun h => hc ⟨h3, h⟩)]
          ((conv => whnf); (repeat ((with_reducible refine Rest.mk ?_); (conv => whnf))))
          rw [show decide ((40:Int) < (xs.flatten.length : Int)) = false from decide_eq_false (by omega)]
          ((conv => whnf); (repeat ((with_reducible refine Rest.mk ?_); (conv => whnf))))
          refine (rsub_any o xs.flatten hr (by omega) _).mono ?_
          rintro v M' ch ⟨rfl, rfl, rfl⟩ _
          rw [refData_eq, show wireData true xs.flatten = dbl xs.flatten from rfl]
          ((conv => whnf); (repeat ((with_reducible refine Rest.mk ?_); (conv => whnf))))
          rw [same_true]
          ((conv => whnf); (repeat ((with_reducible refine Rest.mk ?_); (conv => whnf))))
          refine (data_m bin xs (by omega) (by omega) _ rfl).mono ?_
          rintro v M' ch ⟨rfl, rfl, rfl⟩ _
          ((conv => whnf); (repeat ((with_reducible refine Rest.mk ?_); (conv => whnf))))
          refine (rdata_any bin _ (by omega) _).mono ?_
          rintro v M' ch ⟨rfl, rfl, rfl⟩ _
          rw [refData_eq]
          ((conv => whnf); (repeat ((with_reducible refine Rest.mk ?_); (conv => whnf))))
          rw [same_true]
          ((conv => whnf); (repeat ((with_reducible refine Rest.mk ?_); (conv => whnf))))
          refine (wplain_any bin b (by omega) _).mono ?_
          rintro v M' ch ⟨rfl, rfl, rfl⟩ _
          ((conv => whnf); (repeat ((with_reducible refine Rest.mk ?_); (conv => whnf))))
          refine (rplain_any bin b (by omega) _).mono ?_
          rintro v M' ch ⟨rfl, rfl, rfl⟩ _
          ((conv => whnf); (repeat ((with_reducible refine Rest.mk ?_); (conv => whnf))))
          rw [same_true]
          ((conv => whnf); (repeat ((with_reducible refine Rest.mk ?_); (conv => whnf))))
          refine (stays_any xs (by omega)).mono ?_
          rintro v M' ch ⟨rfl, rfl⟩ _
          ((conv => whnf); (repeat ((with_reducible refine Rest.mk ?_); (conv => whnf))))
          exact fin.flat (.bool _) ⟨rfl, rfl⟩
      case neg =>
        by_cases hl : 40 < xs.flatten.length
        case pos =>
          rw [if_pos hl]
          ((conv => whnf); (repeat ((with_reducible refine Rest.mk ?_); (conv => whnf))))
          rw [d1]
          ((conv => whnf); (repeat ((with_reducible refine Rest.mk ?_); (conv => whnf))))
          rw [d2]
          ((conv => whnf); (repeat ((with_reducible refine Rest.mk ?_); (conv => whnf))))
          rw [show decide ((251:Int) ≤ cmd) = false from decide_eq_false h3]
          ((conv => whnf); (repeat ((with_reducible refine Rest.mk ?_); (conv => whnf))))
          rw [show decide ((40:Int) < (xs.flatten.length : Int)) = true from decide_eq_true (by omega)]
          ((conv => whnf); (repeat ((with_reducible refine Rest.mk ?_); (conv => whnf))))
          refine (data_m bin xs (by omega) (by omega) _ rfl).mono ?_
          rintro v M' ch ⟨rfl, rfl, rfl⟩ _
          ((conv => whnf); (repeat ((with_reducible refine Rest.mk ?_); (conv => whnf))))
          refine (rdata_any bin _ (by omega) _).mono ?_
          rintro v M' ch ⟨rfl, rfl, rfl⟩ _
          rw [refData_eq]
          ((conv => whnf); (repeat ((with_reducible refine Rest.mk ?_); (conv => whnf))))
          rw [same_true]
          ((conv => whnf); (repeat ((with_reducible refine Rest.mk ?_); (conv => whnf))))
          refine (wplain_any bin b (by omega) _).mono ?_
          rintro v M' ch ⟨rfl, rfl, rfl⟩ _
          ((conv => whnf); (repeat ((with_reducible refine Rest.mk ?_); (conv => whnf))))
          refine (rplain_any bin b (by omega) _).mono ?_
          rintro v M' ch ⟨rfl, rfl, rfl⟩ _
          ((conv => whnf); (repeat ((with_reducible refine Rest.mk ?_); (conv => whnf))))
          rw [same_true]
          ((conv => whnf); (repeat ((with_reducible refine Rest.mk ?_); (conv => whnf))))
          refine (stays_any xs (by omega)).mono ?_
          rintro v M' ch ⟨rfl, rfl⟩ _
          ((conv => whnf); (repeat ((with_reducible refine Rest.mk ?_); (conv => whnf))))
          exact fin.flat (.bool _) ⟨rfl, rfl⟩
        case neg =>
          rw [if_neg hl]
          ((conv => whnf); (repeat ((with_reducible refine Rest.mk ?_); (conv => whnf))))
          rw [d1]
          ((conv => whnf); (repeat ((with_reducible refine Rest.mk ?_); (conv => whnf))))
          rw [d2]
          ((conv => whnf); (repeat ((with_reducible refine Rest.mk ?_); (conv => whnf))))
          rw [show decide ((251:Int) ≤ cmd) = false from decide_eq_false h3]
          ((conv => whnf); (repeat ((with_reducible refine Rest.mk ?_); (conv => whnf))))
          rw [show decide ((40:Int) < (xs.flatten.length : Int)) = false from decide_eq_false (by omega)]
          ((conv => whnf); (repeat ((with_reducible refine Rest.mk ?_); (conv => whnf))))
          refine (rsub_any o xs.flatten hr (by omega) _).mono ?_
          rintro v M' ch ⟨rfl, rfl, rfl⟩ _
          rw [refData_eq, show wireData true xs.flatten = dbl xs.flatten from rfl]
          ((conv => whnf); (repeat ((with_reducible refine Rest.mk ?_); (conv => whnf))))
          rw [same_true]
          ((conv => whnf); (repeat ((with_reducible refine Rest.mk ?_); (conv => whnf))))
          refine (data_m bin xs (by omega) (by omega) _ rfl).mono ?_
          rintro v M' ch ⟨rfl, rfl, rfl⟩ _
          ((conv => whnf); (repeat ((with_reducible refine Rest.mk ?_); (conv => whnf))))
          refine (rdata_any bin _ (by omega) _).mono ?_
          rintro v M' ch ⟨rfl, rfl, rfl⟩ _
          rw [refData_eq]
          ((conv => whnf); (repeat ((with_reducible refine Rest.mk ?_); (conv => whnf))))
          rw [same_true]
          ((conv => whnf); (repeat ((with_reducible refine Rest.mk ?_); (conv => whnf))))
          refine (wplain_any bin b (by omega) _).mono ?_
          rintro v M' ch ⟨rfl, rfl, rfl⟩ _
          ((conv => whnf); (repeat ((with_reducible refine Rest.mk ?_); (conv => whnf))))
          refine (rplain_any bin b (by omega) _).mono ?_
          rintro v M' ch ⟨rfl, rfl, rfl⟩ _
          ((conv => whnf); (repeat ((with_reducible refine Rest.mk ?_); (conv => whnf))))
          rw [same_true]
          ((conv => whnf); (repeat ((with_reducible refine Rest.mk ?_); (conv => whnf))))
          refine (stays_any xs (by omega)).mono ?_
          rintro v M' ch ⟨rfl, rfl⟩ _
          ((conv => whnf); (repeat ((with_reducible refine Rest.mk ?_); (conv => whnf))))
          exact fin.flat (.bool _) ⟨rfl, rfl⟩
  case neg =>
    rw [if_neg (fun h => hr h.2.2)]
    ((conv => whnf); (repeat ((with_reducible refine Rest.mk ?_); (conv => whnf))))
    refine (sub_m o xs (by omega) (by omega) _ rfl).mono ?_
    rintro v M' ch ⟨rfl, rfl, rfl⟩ _
    rw [show wireSub o xs.flatten = .tup [.str [], .int .i64 1] by unfold wireSub; rw [if_pos (by omega)]]
    ((conv => whnf); (repeat ((with_reducible refine Rest.mk ?_); (conv => whnf))))
    by_cases h3 : 0 ≤ o
    case pos =>
      rw [show decide ((0:Int) ≤ o) = true from decide_eq_true h3]
      ((conv => whnf); (repeat ((with_reducible refine Rest.mk ?_); (conv => whnf))))
      rw [show decide (o ≤ (255:Int)) = false from decide_eq_false (fun h => hr ⟨h3, h⟩)]
      ((conv => whnf); (repeat ((with_reducible refine Rest.mk ?_); (conv => whnf))))
      refine (data_m bin xs (by omega) (by omega) _ rfl).mono ?_
      rintro v M' ch ⟨rfl, rfl, rfl⟩ _
      ((conv => whnf); (repeat ((with_reducible refine Rest.mk ?_); (conv => whnf))))
      refine (rdata_any bin _ (by omega) _).mono ?_
      rintro v M' ch ⟨rfl, rfl, rfl⟩ _
      rw [refData_eq]
      ((conv => whnf); (repeat ((with_reducible refine Rest.mk ?_); (conv => whnf))))
      rw [same_true]
      ((conv => whnf); (repeat ((with_reducible refine Rest.mk ?_); (conv => whnf))))
      refine (wplain_any bin b (by omega) _).mono ?_
      rintro v M' ch ⟨rfl, rfl, rfl⟩ _
      ((conv => whnf); (repeat ((with_reducible refine Rest.mk ?_); (conv => whnf))))
      refine (rplain_any bin b (by omega) _).mono ?_
      rintro v M' ch ⟨rfl, rfl, rfl⟩ _
      ((conv => whnf); (repeat ((with_reducible refine Rest.mk ?_); (conv => whnf))))
      rw [same_true]
      ((conv => whnf); (repeat ((with_reducible refine Rest.mk ?_); (conv => whnf))))
      refine (stays_any xs (by omega)).mono ?_
      rintro v M' ch ⟨rfl, rfl⟩ _
      ((conv => whnf); (repeat ((with_reducible refine Rest.mk ?_); (conv => whnf))))
      exact fin.flat (.bool _) ⟨rfl, rfl⟩
    case neg =>
      rw [show decide ((0:Int) ≤ o) = false from decide_eq_false h3]
      ((conv => whnf); (repeat ((with_reducible refine Rest.mk ?_); (conv => whnf))))
      refine (data_m bin xs (by omega) (by omega) _ rfl).mono ?_
      rintro v M' ch ⟨rfl, rfl, rfl⟩ _
      ((conv => whnf); (repeat ((with_reducible refine Rest.mk ?_); (conv => whnf))))
      refine (rdata_any bin _ (by omega) _).mono ?_
      rintro v M' ch ⟨rfl, rfl, rfl⟩ _
      rw [refData_eq]
      ((conv => whnf); (repeat ((with_reducible refine Rest.mk ?_); (conv => whnf))))
      rw [same_true]
      ((conv => whnf); (repeat ((with_reducible refine Rest.mk ?_); (conv => whnf))))
      refine (wplain_any bin b (by omega) _).mono ?_
      rintro v M' ch ⟨rfl, rfl, rfl⟩ _
      ((conv => whnf); (repeat ((with_reducible refine Rest.mk ?_); (conv => whnf))))
      refine (rplain_any bin b (by omega) _).mono ?_
      rintro v M' ch ⟨rfl, rfl, rfl⟩ _
      ((conv => whnf); (repeat ((with_reducible refine Rest.mk ?_); (conv => whnf))))
      rw [same_true]
      ((conv => whnf); (repeat ((with_reducible refine Rest.mk ?_); (conv => whnf))))
      refine (stays_any xs (by omega)).mono ?_
      rintro v M' ch ⟨rfl, rfl⟩ _
      ((conv => whnf); (repeat ((with_reducible refine Rest.mk ?_); (conv => whnf))))
      exact fin.flat (.bool _) ⟨rfl, rfl⟩
end Go.Am
end
section
set_option linter.unusedSimpArgs false
namespace Go.Am
open Go Go.Proofs

section
variable {O : Type} {unf : O → List (AO O)} {P : Program}
/-- a call that looks at no object: new objects come behind all -/
theorem CallT.newX {f : FuncId} {args0 args : List AV} {M : Mem O} {R0 R : AV → Mem O → List Nat → Prop}
    (spec : CallT unf P f args0 [] R0) (ha : LowL [] args0 args)
    (hk : ∀ v M0' ch, R0 v M0' ch → R (renV (wideT [] M.length M0'.length) v) (M ++ M0'.map (renO (wideT [] M.length M0'.length))) (List.range M.length)) : CallT unf P f args M R := by
  refine CallT.frame (τ := []) spec ⟨rfl, by simp, fun i hi _ => by simp at hi⟩ ha (fun t ht => by simp at ht) fun v M0' ch hR hch => ?_
  have hw : wideM [] ([] : Mem O) M M0' = M ++ M0'.map (renO (wideT [] M.length M0'.length)) := by
    simp [wideM, setsM]
  refine ⟨List.range M.length, ?_, range_ok _ _ (by rw [hw]; simp)⟩
  rw [hw]; exact hk v M0' ch hR
end

theorem ren_texts (τ : List Nat) (l : List (List UInt8)) : renO τ (txRow l : AO Ob) = txRow l := by
  cases l with
  | nil => rfl
  | cons x l =>
    simp only [txRow, renO, AO.cells.injEq, true_and]
    exact renVs_flat (flat_texts _)
theorem ren_toks (τ : List Nat) (l : Option (List Tok)) : renO τ (toRow l) = toRow l := by
  cases l with
  | none => rfl
  | some l =>
    simp only [toRow, renO, AO.cells.injEq, true_and]
    exact renVs_flat (flat_toks l)

set_option maxRecDepth 100000
attribute [local irreducible] CallT Ent pushA

theorem whole_ok (r : Rdr) : T 21 [.ptr 0 0] [.obj (.rdr r)] (fun v M' ch => v = .bool (decide (r.st = 0)) ∧ M' = [.obj (.rdr r)] ∧ ch = [0]) := by
  refine CallT.by_body Tryd.func21 rfl Tryd.call21 rfl (Ent.open1 (by simp [unfW])) ?_
  obtain ⟨bin, st, after, cmd, opt, sub, long, data, out⟩ := r
  ((conv => whnf); (repeat ((with_reducible refine Rest.mk ?_); (conv => whnf))))
  exact fin_rdr (r' := ⟨bin, st, after, cmd, opt, sub, long, data, out⟩) (v' := .bool (decide (st = 0))) (a := 1) (b := 2) (c := 3) (by decide) rfl (low_bySl rfl _) (low_bySl rfl _) (low_toSl rfl _) (.inr rfl) (.inr rfl) (.inr rfl) (.bool _) ⟨_, rfl⟩ ⟨rfl, rfl, rfl⟩

theorem back_read (bin : Bool) (all : List UInt8) (o : UInt8) (x : List UInt8) (hx : x.length ≤ 40) :
    (evs (.new bin) ([], []) (wireData bin all ++ [255, 253, o] ++ ([255, 250, o] ++ dbl x ++ [255, 240]))).1.ground [] ∧
    (evs (.new bin) ([], []) (wireData bin all ++ [255, 253, o] ++ ([255, 250, o] ++ dbl x ++ [255, 240]))).2 = (all, [⟨2, 253, o.toNat, []⟩, ⟨3, 0, o.toNat, x⟩]) := by
  have h1 := sent_read all (.new bin) ([], []) (ground_new bin all)
  rw [show (Ref.new bin).bin = bin from rfl, refData_eq] at h1
  rw [evs_app (s := wireData bin all ++ [255, 253, o]), evs_app (s := wireData bin all), h1.2]
  have h2 := option_read (evs (.new bin) ([], []) (wireData bin all)).1 ([] ++ all, []) o h1.1
  rw [h2.2]
  have h3 := suball_read (evs (evs (.new bin) ([], []) (wireData bin all)).1 ([] ++ all, []) [255, 253, o]).1 (([] : List UInt8) ++ all, ([] : List Tok) ++ [⟨2, 253, o.toNat, []⟩]) o x hx h2.1
  rw [refData_eq, show wireData true x = dbl x from rfl] at h3
  exact ⟨h3.1, by rw [h3.2]; rfl⟩

theorem rel_st {r : Rdr} {R : Ref} (h : Rel r R) (hg : R.ground []) : r.st = 0 := by
  obtain ⟨_, _, h⟩ := h
  obtain ⟨g1, g2, _⟩ := hg
  rcases h with h | ⟨_, h | h | h | h | h⟩
  · exact h.1
  · rw [g2] at h; cases h.2.2
  · obtain ⟨_, _, x, hx, _⟩ := h; rw [g2] at hx; cases hx
  · rw [g2] at h; cases h.2.2
  · rw [g1] at h; cases h.2.1
  · rw [g1] at h; cases h.2.1

theorem evs_len2 (s : List UInt8) : ∀ (R : Ref) (t : Told), (evs R t s).2.2.length ≤ t.2.length + s.length := by
  induction s with
  | nil => intro R t; exact Nat.le_refl _
  | cons c s ih =>
    intro R t
    rw [evs_cons]
    have h1 := ih (R.feed c).1 (addEv t (R.feed c).2)
    have h2 : (addEv t (R.feed c).2).2.length ≤ t.2.length + 1 := by
      cases hf : (R.feed c).2 with
      | none => simp [addEv]
      | some x => unfold addEv; simp only; split <;> simp
    simp only [List.length_cons]; omega

theorem flush_rel {r : Rdr} {R : Ref} (h : Rel r R) : Rel { r.flush with out := none } R := by
  unfold Rdr.flush
  split <;> exact h

/-- the reader ready for the next bytes -/
theorem next_reader {o : Ob} {R : Ref} {p : List UInt8} (hfit : o.start.fits 0) (htold : o.start.told = ([], [])) (hrel : Rel o.start R) :
    let F := (o.start.feed p).flush
    Rdr.fits 0 { F with out := none } ∧ ({ F with out := none } : Rdr).told = ([], []) ∧ Rel { F with out := none } (evs R ([], []) p).1 ∧
      (plainText (F.out.getD []), others (F.out.getD [])) = (evs R ([], []) p).2 ∧ (F.out.getD []).length ≤ 3 * p.length + 1 := by
  intro F
  have h1 := feed_sim p _ _ hrel
  rw [htold] at h1
  have h2 := flush_told (o.start.feed p)
  have h3 := hfit.feed p
  have h4 := flush_out (o.start.feed p)
  have hst : F.st = (o.start.feed p).st := Rdr.flush_st _
  refine ⟨⟨by rw [show ({ F with out := none } : Rdr).st = F.st from rfl, hst]; exact h3.1, by simp, by rw [show ({ F with out := none } : Rdr).data = F.data from rfl, h2.2]; simp⟩, ?_, flush_rel h1.1, by rw [h2.1]; exact h1.2, ?_⟩
  · simp only [Rdr.told, Option.getD_none]
    rw [show F.data.getD [] = [] from h2.2]
    rfl
  · have := h3.2.1; show ((o.start.feed p).flush.out.getD []).length ≤ _; omega

/-- Feed of one piece, among other objects -/
theorem feed_at (o : Ob) (hr : ∀ r, o ≠ .ref r) (p : List UInt8) (ho : o.start.fits 0) (hp : p.length ≤ 1000000) (A B : AO Ob) :
    T 20 [.ptr 0 0, .sl 3 0 1 1] [.obj o, A, B, .cells none [.str p]] (fun v M' _ => v = toSl 4 (o.start.feed p).flush.out ∧ M' = [.obj (.rdr { (o.start.feed p).flush with out := none }), A, B, .cells none [.str p], toRow (o.start.feed p).flush.out]) := by
  have hf := feed_ok o hr [p] 0 ho (by simp; omega) (by simp)
  rw [show [p].flatten = p by simp] at hf
  generalize (o.start.feed p).flush = F at hf ⊢
  refine CallT.frame (τ := [0, 3]) hf (Parts.low (by decide) (.some rfl (.obj _) (.some rfl (.cells (.flat fun v hv => ?_)) .nil))) (.cons (.ptr rfl) (.cons (.sl rfl) (.nil _))) (by simp) ?_
  · simp at hv; subst hv; exact .str _
  rintro v M0' ch ⟨rfl, rfl⟩ _
  refine ⟨[0, 3], ⟨?_, ?_⟩, ⟨by simp [wideM, setsM], fun i hi hn => ?_⟩⟩
  · cases F.out with
    | none => rfl
    | some l => rfl
  · simp only [wideM, setsM]
    cases F.out with
    | none => rfl
    | some l =>
      have : (toRow (some l)) = renO (wideT [0, 3] 4 1) (toRow (some l)) := (ren_toks _ _).symm
      simp [wideT, renO, renV, renVs, toRow] at this ⊢
      exact this.symm
  · simp at hi hn
    rcases (show i = 1 ∨ i = 2 by omega) with rfl | rfl <;> rfl

end Go.Am
end
section
namespace Go.Am
open Go Go.Proofs

section
variable {P : Program}
theorem partK_one {t : TypeId} {td : TypeDesc} {off : Nat} {v : AV} {R : AV → Prop} {cs : List AV} (ht : P.underlying t = some td) (hd : isA td = false) (hc : cs[off]? = some v) (hr : R v) : partK P t off R cs := by
  unfold partK
  refine aggK_iff.2 ⟨td, ht, ?_⟩
  rw [hd]
  obtain ⟨hlt, hv⟩ := List.getElem?_eq_some_iff.1 hc
  refine dropK_iff.2 ⟨by omega, ?_⟩
  rw [List.drop_eq_getElem_cons hlt, hv]
  exact hr
theorem eqT_int {d : Nat} {t : TypeId} {k : IntKind} {a b : Int} {R : Bool → Prop} (ht : P.underlying t = some (.int k)) (hr : R (decide (a = b))) : eqT P (d + 1) t (.int k a) (.int k b) R := by
  rw [eqT]
  exact descK_iff.2 ⟨_, ht, testK_true (by simp) hr⟩
theorem eqT_str {d : Nat} {t : TypeId} {a b : List UInt8} {R : Bool → Prop} (ht : P.underlying t = some .string) (hr : R (decide (a = b))) : eqT P (d + 1) t (.str a) (.str b) R := by
  rw [eqT]
  exact descK_iff.2 ⟨_, ht, hr⟩
end

set_option maxRecDepth 100000 in
theorem eq_tok (d : Nat) (a b : Tok) (R : Bool → Prop) (h : R (decide (a = b))) : eqT Tryd.prog (d + 2) 61 (.agg a.cells) (.agg b.cells) R := by
  rw [eqT]
  refine descK_iff.2 ⟨_, Tryd.underlying61, ?_⟩
  refine testK_true (b := eqOk _ _ _) (by kernel_rfl) ?_
  refine partK_one Tryd.underlying3 rfl (v := .int .i64 a.kind) rfl ?_
  refine partK_one Tryd.underlying3 rfl (v := .int .i64 b.kind) rfl ?_
  refine eqT_int Tryd.underlying3 ?_
  refine partK_one Tryd.underlying3 rfl (v := .int .i64 a.cmd) rfl ?_
  refine partK_one Tryd.underlying3 rfl (v := .int .i64 b.cmd) rfl ?_
  refine eqT_int Tryd.underlying3 ?_
  refine partK_one Tryd.underlying3 rfl (v := .int .i64 a.opt) rfl ?_
  refine partK_one Tryd.underlying3 rfl (v := .int .i64 b.opt) rfl ?_
  refine eqT_int Tryd.underlying3 ?_
  refine partK_one Tryd.underlying9 rfl (v := .str a.text) rfl ?_
  refine partK_one Tryd.underlying9 rfl (v := .str b.text) rfl ?_
  refine eqT_str Tryd.underlying9 ?_
  have e : (decide (a.kind = b.kind) && (decide (a.cmd = b.cmd) && (decide (a.opt = b.opt) && (decide (a.text = b.text) && true)))) = decide (a = b) := by
    obtain ⟨k, c, o, s⟩ := a
    obtain ⟨k', c', o', s'⟩ := b
    simp only [Tok.mk.injEq, Bool.and_true, Bool.decide_and]
  show R _
  rw [e]; exact h
end Go.Am
end
section
set_option linter.unusedSimpArgs false
namespace Go.Am
open Go Go.Proofs

set_option maxRecDepth 100000
attribute [local irreducible] CallT Ent pushA eqT

theorem cuts_any (s : List UInt8) (ats : List Int) (hs : s.length ≤ 1000000) (hn : ats.length ≤ 1000000) (hr : ∀ a, a ∈ ats → -9223372036854775808 ≤ a ∧ a ≤ 9223372036854775807) (M : Mem Ob) :
    T 19 [.str s, .vs (ats.map (.int .i64)) ats.length] M (fun v M' _ => ∃ parts : List (List UInt8), parts ≠ [] ∧ parts.flatten = s ∧ parts.length ≤ ats.length + 1 ∧ v = .sl M.length 0 parts.length parts.length ∧ M' = M ++ [txRow parts]) := by
  refine CallT.newX (cuts_ok s ats hs hn hr) (.cons (.str _) (.cons (low_vsI _ _) (.nil _))) ?_
  rintro v M' ch ⟨parts, h1, h2, h3, rfl, rfl⟩
  refine ⟨parts, h1, h2, h3, ?_, by simp [ren_texts]⟩
  cases parts with
  | nil => exact absurd rfl h1
  | cons x l => simp [txSl, renV, wideT]

theorem sub_lit (o : Int) (x : List UInt8) (hl : x.length ≤ 1000000) (M : Mem Ob) (id : Nat) (h : M[id]? = some (.cells none [.str x])) :
    T 14 [.int .i64 o, .sl id 0 1 1] M (fun v M' ch => v = wireSub o x ∧ M' = M ∧ ch = []) := by
  have h1 := sub_ok (unf := unfW) o [x] (by simp) (by simpa using hl)
  rw [show [x].flatten = x by simp] at h1
  exact (h1.mono fun v M' ch h _ => ⟨h.1, h.2.1⟩).lend (by rintro v rfl; exact free_sub _ _) (.cons (.flat (.int _ _)) (.cons (flat_lit [x] M id h) .nil))
theorem data_one (bin : Bool) (x : List UInt8) (hl : x.length ≤ 1000000) (M : Mem Ob) (id : Nat) (h : M[id]? = some (.cells none [.str x])) :
    T 7 [.bool bin, .sl id 0 1 1] M (fun v M' ch => v = .str (wireData bin x) ∧ M' = M ∧ ch = []) := by
  have h1 := data_lit bin [x] M id (by simp) (by simpa using hl) h
  rwa [show [x].flatten = x by simp] at h1
theorem data_vs (bin : Bool) (xs : List (List UInt8)) (hx : xs.length ≤ 1000000) (hl : xs.flatten.length ≤ 1000000) (M : Mem Ob) :
    T 7 [.bool bin, .vs (xs.map .str) xs.length] M (fun v M' ch => v = .str (wireData bin xs.flatten) ∧ M' = M ∧ ch = []) :=
  ((data0_ok bin xs hx hl).mono fun v M' ch h _ => ⟨h.1, h.2.1⟩).lend (by rintro v rfl; exact .flat (.str _)) (.cons (.flat (.bool _)) (.cons (.vs (flat_texts _)) .nil))
theorem data_plain (bin : Bool) (s : List UInt8) : refPlain bin (wireData bin s) = s := by
  have := parts_plain bin [s]
  simpa using this

theorem back_ok (bin : Bool) (xs : List (List UInt8)) (o : Int) (ats : List Int) (hr : ∀ a, a ∈ ats → -9223372036854775808 ≤ a ∧ a ≤ 9223372036854775807) : T 5 [.bool bin, .vs (xs.map .str) xs.length, .int .i64 o, .vs (ats.map (.int .i64)) ats.length] [] (fun v M' _ => v = .bool true ∧ M' = []) := by
  refine CallT.by_body Tryd.func5 rfl Tryd.call5 rfl (.refl _ _ _) ?_
  have htrue : ∀ (M : Mem Ob), fin unfW 0 [] (fun v M' _ => v = .bool true ∧ M' = []) (.bool true) M := fun M => fin.flat (.bool _) ⟨rfl, rfl⟩
  ((conv => whnf); (repeat ((with_reducible refine Rest.mk ?_); (conv => whnf))))
  refine (short_ok 12 500 xs (by omega) (by omega)).mono ?_
  rintro v M' ch ⟨rfl, rfl⟩ _
  by_cases hs : xs.length ≤ 12 ∧ xs.flatten.length ≤ 500
  case neg =>
    rw [decide_eq_false hs]
    ((conv => whnf); (repeat ((with_reducible refine Rest.mk ?_); (conv => whnf))))
    refine alive_ok.mono ?_
    rintro v M' ch ⟨rfl, rfl⟩ _
    ((conv => whnf); (repeat ((with_reducible refine Rest.mk ?_); (conv => whnf))))
    exact htrue _
  rw [decide_eq_true hs]
  obtain ⟨hs1, hs2⟩ := hs
  ((conv => whnf); (repeat ((with_reducible refine Rest.mk ?_); (conv => whnf))))
  by_cases ho0 : o < 0
  case pos =>
    rw [decide_eq_true ho0]
    ((conv => whnf); (repeat ((with_reducible refine Rest.mk ?_); (conv => whnf))))
    refine alive_ok.mono ?_
    rintro v M' ch ⟨rfl, rfl⟩ _
    ((conv => whnf); (repeat ((with_reducible refine Rest.mk ?_); (conv => whnf))))
    exact htrue _
  rw [decide_eq_false ho0]
  ((conv => whnf); (repeat ((with_reducible refine Rest.mk ?_); (conv => whnf))))
  by_cases ho1 : 255 < o
  case pos =>
    rw [decide_eq_true ho1]
    ((conv => whnf); (repeat ((with_reducible refine Rest.mk ?_); (conv => whnf))))
    refine alive_ok.mono ?_
    rintro v M' ch ⟨rfl, rfl⟩ _
    ((conv => whnf); (repeat ((with_reducible refine Rest.mk ?_); (conv => whnf))))
    exact htrue _
  rw [decide_eq_false ho1]
  ((conv => whnf); (repeat ((with_reducible refine Rest.mk ?_); (conv => whnf))))
  by_cases hat : 30 < ats.length
  case pos =>
    rw [decide_eq_true (show (30 : Int) < (ats.length : Int) by omega)]
    ((conv => whnf); (repeat ((with_reducible refine Rest.mk ?_); (conv => whnf))))
    refine alive_ok.mono ?_
    rintro v M' ch ⟨rfl, rfl⟩ _
    ((conv => whnf); (repeat ((with_reducible refine Rest.mk ?_); (conv => whnf))))
    exact htrue _
  rw [decide_eq_false (show ¬(30 : Int) < (ats.length : Int) by omega)]
  ((conv => whnf); (repeat ((with_reducible refine Rest.mk ?_); (conv => whnf))))
  refine alive_ok.mono ?_
  rintro v M' ch ⟨rfl, rfl⟩ _
  ((conv => whnf); (repeat ((with_reducible refine Rest.mk ?_); (conv => whnf))))
  refine (join_any xs (by omega) (by omega) _).mono ?_
  rintro v M' ch ⟨rfl, rfl, rfl⟩ _
  generalize hall : xs.flatten = all at hs2
  ((conv => whnf); (repeat ((with_reducible refine Rest.mk ?_); (conv => whnf))))
  refine testK_true (by simp; omega) ?_
  ((conv => whnf); (repeat ((with_reducible refine Rest.mk ?_); (conv => whnf))))
  refine (option_any 253 o _).mono ?_
  rintro v M' ch ⟨rfl, rfl, rfl⟩ _
  rw [if_pos (by omega), show UInt8.ofNat (Int.toNat 253) = 253 from rfl]
  ((conv => whnf); (repeat ((with_reducible refine Rest.mk ?_); (conv => whnf))))
  have hxt : (List.drop 0 (List.take (min (all.length : Int) 40).toNat all)).length ≤ 40 := by simp; omega
  generalize List.drop 0 (List.take (min (all.length : Int) 40).toNat all) = text at hxt ⊢
  refine (sub_lit o text (by omega) _ 0 rfl).mono ?_
  rintro v M' ch ⟨rfl, rfl, rfl⟩ _
  rw [show wireSub o text = .tup [.str ([255, 250, UInt8.ofNat o.toNat] ++ dbl text ++ [255, 240]), .int .i64 0] by unfold wireSub; rw [if_neg (by omega), if_neg (by omega)]]
  ((conv => whnf); (repeat ((with_reducible refine Rest.mk ?_); (conv => whnf))))
  refine (data_vs bin xs (by omega) (by rw [hall]; omega) _).mono ?_
  rintro v M' ch ⟨rfl, rfl, rfl⟩ _
  rw [hall]
  have hwl := wireData_len bin all
  ((conv => whnf); (repeat ((with_reducible refine Rest.mk ?_); (conv => whnf))))
  refine (wplain_any bin _ (by omega) _).mono ?_
  rintro v M' ch ⟨rfl, rfl, rfl⟩ _
  rw [data_plain]
  ((conv => whnf); (repeat ((with_reducible refine Rest.mk ?_); (conv => whnf))))
  rw [same_true]
  ((conv => whnf); (repeat ((with_reducible refine Rest.mk ?_); (conv => whnf))))
  refine (data_one bin all (by omega) _ 2 rfl).mono ?_
  rintro v M' ch ⟨rfl, rfl, rfl⟩ _
  ((conv => whnf); (repeat ((with_reducible refine Rest.mk ?_); (conv => whnf))))
  refine testK_true (by simp; omega) ?_
  ((conv => whnf); (repeat ((with_reducible refine Rest.mk ?_); (conv => whnf))))
  have hdb : (dbl text).length ≤ 2 * text.length := (wireData_len true text).2
  refine testK_true (by simp; omega) ?_
  ((conv => whnf); (repeat ((with_reducible refine Rest.mk ?_); (conv => whnf))))
  have hb := back_read bin all (UInt8.ofNat o.toNat) text hxt
  generalize hsd : wireData bin all ++ [255, 253, UInt8.ofNat o.toNat] ++ ([255, 250, UInt8.ofNat o.toNat] ++ dbl text ++ [255, 240]) = s at hb
  have hsl : s.length ≤ 1200 := by rw [← hsd]; simp; omega
  clear hsd
  have hoN : ((UInt8.ofNat o.toNat).toNat : Int) = o := by
    rw [UInt8.toNat_ofNat']; omega
  rw [hoN] at hb
  refine (cuts_any s ats (by omega) (by omega) hr _).mono ?_
  rintro v M' ch ⟨parts, hp0, hpf, hpn, rfl, rfl⟩ _
  have htr : (txRow parts : AO Ob) = .cells (some 1) (parts.map .str) := by
    cases parts with
    | nil => exact absurd rfl hp0
    | cons x l => rfl
  rw [htr]
  ((conv => whnf); (repeat ((with_reducible refine Rest.mk ?_); (conv => whnf))))
  refine .inl (loopG (α := Nat × Ob × List UInt8 × List Tok) (inv := fun a => a.1 ≤ parts.length ∧ ((∀ r, a.2.1 ≠ .ref r) ∧ (a.1 ≠ 0 → ∃ r, a.2.1 = .rdr r)) ∧ a.2.1.start.fits 0 ∧ a.2.1.start.told = ([], []) ∧ Rel a.2.1.start (evs (.new bin) ([], []) (parts.take a.1).flatten).1 ∧ (evs (.new bin) ([], []) (parts.take a.1).flatten).2 = (a.2.2.1, a.2.2.2))
    (st := fun a => [.bool bin, .und, .int .i64 o, .und, .und, .und, .und, .und, .bool false, .str all, .str text, .und, .und, .und, .und, .ptr 0 0, .sl 1 0 parts.length parts.length, .str a.2.2.1, toSl 2 (optL a.2.2.2), .int .i64 (a.1 : Nat), .und, .und, .und, .und, .und, .und, .und, .und, .und, .und, .und, .und, .und, .und, .und, .und, .und, .und, .und, .und, .und, .und, .und, .und, .und, .und, .und, .und, .und, .und, .und, .und, .und, .und, .und, .und, .und, .und, .und, .und, .und, .und, .und, .und, .und, .und, .und, .und, .und, .und, .und, .und, .und, .und, .und, .und, .und, .und, .und, .und, .und, .und, .und, .und, .und, .und, .und, .und, .und, .und, .und, .und, .und, .und, .und, .und, .und, .und, .und, .und, .und, .und, .und, .und, .und, .und, .und, .und, .und, .und, .und, .und, .und, .und, .und, .und, .und, .und, .und, .und, .und, .und, .und, .und, .und, .und, .und, .und, .und, .und, .und, .und, .und, .und, .und, .und, .und, .und, .und, .und, .und, .und, .und, .und, .und, .und, .und, .und, .und, .und, .und, .und, .und, .und, .und, .und, .und, .und])
    (mm := fun a => [.obj a.2.1, .cells (some 1) (parts.map .str), toRow (optL a.2.2.2)]) (μ := fun a => parts.length - a.1) (0, .fresh bin, [], [])
    ⟨Nat.zero_le _, ⟨by simp, fun h => absurd rfl h⟩, Rdr.fits.new bin, rfl, rel_new bin, rfl⟩ ?_ ?_)
  · refine .trans (Ent.fold (o := Ob.fresh bin) (r := 1) (cs := [7, 8, 9]) (Parts.low (by decide) (.some rfl (.cells (low_root (r := Rdr.new bin) 0 (List.replicate 30 0) .nilS .nilS .nilS)) (.dead (.dead (.dead .nil))))) (by simp [unfW]) (by simp)) ?_
    exact .low (τ := [1, 3, 9]) (Parts.low (by decide) (.some rfl (.obj _) (.some rfl (.cells (.flat (flat_texts _))) (.dead .nil)))) (by (repeat' (first | exact LowL.nil _ | refine LowL.cons (.und _) ?_ | refine LowL.cons (.int _ _) ?_ | refine LowL.cons (.str _) ?_ | refine LowL.cons (.bool _) ?_ | refine LowL.cons (.ptr rfl) ?_ | refine LowL.cons (.sl rfl) ?_ | refine LowL.cons (low_vsS _ _) ?_ | refine LowL.cons (low_vsI _ _) ?_ | refine LowL.cons (low_tx rfl _) ?_ | refine LowL.cons .nilS ?_ | refine LowL.cons .nilP ?_ | refine LowL.cons (low_acc rfl _) ?_ | refine LowL.cons (low_toSl rfl _) ?_ | refine LowL.cons (low_bySl rfl _) ?_ | refine LowL.cons (low_toSlE rfl (by simp)) ?_))) (Nat.zero_le _) (fun i hi => by simp at hi)
  rintro ⟨k, ob, data, other⟩ ⟨hk, ⟨hno, hsome⟩, hfit, htold, hrel, hev⟩
  dsimp only at hk hno hsome hfit htold hrel hev ⊢
  have hb1 := evs_len (parts.take k).flatten (.new bin) ([], [])
  have hb2 := evs_len2 (parts.take k).flatten (.new bin) ([], [])
  have hb3 := flatten_take_le parts k
  rw [hpf] at hb3
  rw [hev] at hb1 hb2
  simp only [List.length_nil, Nat.zero_add] at hb1 hb2
  ((conv => whnf); (repeat ((with_reducible refine Rest.mk ?_); (conv => whnf))))
  refine testK_split (fun h1 => ?_) (fun h1 => ?_) <;> ((conv => whnf); (repeat ((with_reducible refine Rest.mk ?_); (conv => whnf))))
  · have hkn : k < parts.length := by simp at h1; omega
    refine testK_true (by simp; omega) ?_
    ((conv => whnf); (repeat ((with_reducible refine Rest.mk ?_); (conv => whnf))))
    refine dropHead (v := .str parts[k]) (by simp [sz9, hkn]) ?_
    ((conv => whnf); (repeat ((with_reducible refine Rest.mk ?_); (conv => whnf))))
    have hpk : (parts.take k).flatten.length + parts[k].length ≤ s.length := by
      have := flatten_take_le parts (k + 1)
      rw [flatten_take_succ hkn, hpf, List.length_append] at this
      exact this
    have hnx := next_reader (p := parts[k]) hfit htold hrel
    have hstep : evs (.new bin) ([], []) (parts.take (k + 1)).flatten = ((evs (evs (.new bin) ([], []) (parts.take k).flatten).1 ([], []) parts[k]).1, (data ++ (evs (evs (.new bin) ([], []) (parts.take k).flatten).1 ([], []) parts[k]).2.1, other ++ (evs (evs (.new bin) ([], []) (parts.take k).flatten).1 ([], []) parts[k]).2.2)) := by
      rw [flatten_take_succ hkn, evs_app, hev]
      have := evs_shift (data, other) parts[k] (evs (.new bin) ([], []) (parts.take k).flatten).1 ([], [])
      simpa using this
    have hb1' := evs_len (parts.take (k + 1)).flatten (.new bin) ([], [])
    have hb2' := evs_len2 (parts.take (k + 1)).flatten (.new bin) ([], [])
    have hb3' := flatten_take_le parts (k + 1)
    rw [hpf] at hb3'
    refine (feed_at ob hno parts[k] hfit (by omega) _ _).mono ?_
    rintro v M' ch ⟨rfl, rfl⟩ _
    have hpl : parts[k].length ≤ 1200 := by omega
    generalize parts[k] = p at hnx hstep hpl ⊢
    generalize (evs (evs (.new bin) ([], []) (parts.take k).flatten).1 ([], []) p) = E at hnx hstep ⊢
    generalize (ob.start.feed p).flush = F at hnx ⊢
    obtain ⟨f1, f2, f3, f4, f5⟩ := hnx
    generalize ({ F with out := none } : Rdr) = N at f1 f2 f3 ⊢
    generalize F.out = out at f4 f5 ⊢
    rw [← f4] at hstep
    rw [hstep] at hb1' hb2'
    simp only [List.length_nil, Nat.zero_add] at hb1' hb2'
    clear f4 hrel hfit htold hev hno hsome
    have hinv : ∀ dl ol, dl = data ++ plainText (out.getD []) → ol = other ++ others (out.getD []) → (k + 1) ≤ parts.length ∧ ((∀ r, (Ob.rdr N) ≠ .ref r) ∧ (k + 1 ≠ 0 → ∃ r, Ob.rdr N = .rdr r)) ∧ (Ob.rdr N).start.fits 0 ∧ (Ob.rdr N).start.told = ([], []) ∧ Rel (Ob.rdr N).start (evs (.new bin) ([], []) (parts.take (k + 1)).flatten).1 ∧ (evs (.new bin) ([], []) (parts.take (k + 1)).flatten).2 = (dl, ol) := by
      rintro dl ol rfl rfl
      rw [hstep]
      exact ⟨hkn, ⟨by simp, fun _ => ⟨N, rfl⟩⟩, f1, f2, f3, rfl⟩
    rcases out with _ | l
    · ((conv => whnf); (repeat ((with_reducible refine Rest.mk ?_); (conv => whnf))))
      refine .inr ⟨1, ?_⟩
      ((conv => whnf); (repeat ((with_reducible refine Rest.mk ?_); (conv => whnf))))
      rw [wrap_succ (by omega)]
      refine ⟨(k + 1, .rdr N, data, other), _, _, .low (τ := [0, 1, 2]) (Parts.low (by decide) (.some rfl (.obj _) (.some rfl (.cells (.flat (flat_texts _))) (part_to (.inr rfl) .nil)))) (by (repeat' (first | exact LowL.nil _ | refine LowL.cons (.und _) ?_ | refine LowL.cons (.int _ _) ?_ | refine LowL.cons (.str _) ?_ | refine LowL.cons (.bool _) ?_ | refine LowL.cons (.ptr rfl) ?_ | refine LowL.cons (.sl rfl) ?_ | refine LowL.cons (low_vsS _ _) ?_ | refine LowL.cons (low_vsI _ _) ?_ | refine LowL.cons (low_tx rfl _) ?_ | refine LowL.cons .nilS ?_ | refine LowL.cons .nilP ?_ | refine LowL.cons (low_acc rfl _) ?_ | refine LowL.cons (low_toSl rfl _) ?_ | refine LowL.cons (low_bySl rfl _) ?_ | refine LowL.cons (low_toSlE rfl (by simp)) ?_))) (Nat.zero_le _) (fun i hi => by simp at hi), ⟨hinv data other (by simp [plainText]) (by simp [others]), rfl, rfl⟩, by simp; omega⟩
    simp only [Option.getD_some] at hinv hstep hb1' hb2' f5
    ((conv => whnf); (repeat ((with_reducible refine Rest.mk ?_); (conv => whnf))))
    refine .inl (loopG (α := Nat) (inv := fun j => j ≤ l.length)
      (st := fun j => [.bool bin, .und, .int .i64 o, .und, .und, .und, .und, .und, .bool false, .str all, .str text, .und, .und, .und, .und, .ptr 0 0, .sl 1 0 parts.length parts.length, .str (data ++ plainText (l.take j)), toSl 2 (optL (other ++ others (l.take j))), .int .i64 (k : Nat), .sl 3 0 l.length l.length, .int .i64 (j : Nat), .und, .und, .und, .und, .und, .und, .und, .und, .und, .und, .und, .und, .und, .und, .und, .und, .und, .und, .und, .und, .und, .und, .und, .und, .und, .und, .und, .und, .und, .und, .und, .und, .und, .und, .und, .und, .und, .und, .und, .und, .und, .und, .und, .und, .und, .und, .und, .und, .und, .und, .und, .und, .und, .und, .und, .und, .und, .und, .und, .und, .und, .und, .und, .und, .und, .und, .und, .und, .und, .und, .und, .und, .und, .und, .und, .und, .und, .und, .und, .und, .und, .und, .und, .und, .und, .und, .und, .und, .und, .und, .und, .und, .und, .und, .und, .und, .und, .und, .und, .und, .und, .und, .und, .und, .und, .und, .und, .und, .und, .und, .und, .und, .und, .und, .und, .und, .und, .und, .und, .und, .und, .und, .und, .und, .und, .und, .und, .und, .und, .und, .und, .und, .und, .und, .und, .und])
      (mm := fun j => [.obj (.rdr N), .cells (some 1) (parts.map .str), toRow (optL (other ++ others (l.take j))), .cells (some 4) (l.flatMap Tok.cells)]) (μ := fun j => l.length - j) 0 (Nat.zero_le _) ?_ ?_)
    · simp only [List.take_zero, show plainText [] = [] from rfl, show others [] = [] from rfl, List.append_nil]
      exact .low (τ := [0, 1, 2, 4]) (Parts.low (by decide) (.some rfl (.obj _) (.some rfl (.cells (.flat (flat_texts _))) (part_to (.inr rfl) (.some rfl (.cells (.flat (flat_toks l))) .nil))))) (by (repeat' (first | exact LowL.nil _ | refine LowL.cons (.und _) ?_ | refine LowL.cons (.int _ _) ?_ | refine LowL.cons (.str _) ?_ | refine LowL.cons (.bool _) ?_ | refine LowL.cons (.ptr rfl) ?_ | refine LowL.cons (.sl rfl) ?_ | refine LowL.cons (low_vsS _ _) ?_ | refine LowL.cons (low_vsI _ _) ?_ | refine LowL.cons (low_tx rfl _) ?_ | refine LowL.cons .nilS ?_ | refine LowL.cons .nilP ?_ | refine LowL.cons (low_acc rfl _) ?_ | refine LowL.cons (low_toSl rfl _) ?_ | refine LowL.cons (low_bySl rfl _) ?_ | refine LowL.cons (low_toSlE rfl (by simp)) ?_))) (Nat.zero_le _) (fun i hi => by simp at hi)
    intro j hj
    dsimp only
    ((conv => whnf); (repeat ((with_reducible refine Rest.mk ?_); (conv => whnf))))
    refine testK_split (fun h2 => ?_) (fun h2 => ?_) <;> ((conv => whnf); (repeat ((with_reducible refine Rest.mk ?_); (conv => whnf))))
    · have hjn : j < l.length := by simp at h2; omega
      refine testK_true (by simp; omega) ?_
      ((conv => whnf); (repeat ((with_reducible refine Rest.mk ?_); (conv => whnf))))
      refine dropHead (v := .int .i64 l[j].kind) (by have := tok_get hjn 0 (by omega); simpa [sz61, Tok.cells] using this) ?_
      ((conv => whnf); (repeat ((with_reducible refine Rest.mk ?_); (conv => whnf))))
      have hsnoc := plain_snoc (l.take j) l[j]
      rw [← List.take_succ_eq_append_getElem hjn] at hsnoc
      have hosnoc : others (l.take (j + 1)) = others (l.take j) ++ others [l[j]] := by rw [List.take_succ_eq_append_getElem hjn, others_app]
      have hpt1 := plain_take l (j + 1)
      have hot : (others (l.take j)).length ≤ (others l).length := by
        have := others_app (l.take j) (l.drop j)
        rw [List.take_append_drop] at this
        rw [this]; simp
      simp only [List.length_append] at hb1' hb2'
      refine testK_split (fun h3 => ?_) (fun h3 => ?_) <;> ((conv => whnf); (repeat ((with_reducible refine Rest.mk ?_); (conv => whnf))))
      · have h3 : l[j].kind = 0 := by simpa using h3
        rw [if_pos h3] at hsnoc
        rw [show others [l[j]] = [] by simp [others, h3], List.append_nil] at hosnoc
        rw [hsnoc, List.length_append] at hpt1
        refine testK_true (by simp; omega) ?_
        ((conv => whnf); (repeat ((with_reducible refine Rest.mk ?_); (conv => whnf))))
        refine dropHead (v := .str l[j].text) (by have := tok_get hjn 3 (by omega); simpa [sz61, Tok.cells] using this) ?_
        ((conv => whnf); (repeat ((with_reducible refine Rest.mk ?_); (conv => whnf))))
        refine testK_true (by simp; omega) ?_
        ((conv => whnf); (repeat ((with_reducible refine Rest.mk ?_); (conv => whnf))))
        rw [wrap_succ (by omega), List.append_assoc, ← hsnoc, ← hosnoc]
        exact ⟨j + 1, _, _, .env (by (repeat' (first | exact LowL.nil _ | refine LowL.cons (.und _) ?_ | refine LowL.cons (.int _ _) ?_ | refine LowL.cons (.str _) ?_ | refine LowL.cons (.bool _) ?_ | refine LowL.cons (.ptr rfl) ?_ | refine LowL.cons (.sl rfl) ?_ | refine LowL.cons (low_vsS _ _) ?_ | refine LowL.cons (low_vsI _ _) ?_ | refine LowL.cons (low_tx rfl _) ?_ | refine LowL.cons .nilS ?_ | refine LowL.cons .nilP ?_ | refine LowL.cons (low_acc rfl _) ?_ | refine LowL.cons (low_toSl rfl _) ?_ | refine LowL.cons (low_bySl rfl _) ?_ | refine LowL.cons (low_toSlE rfl (by simp)) ?_))), ⟨hjn, rfl, rfl⟩, by omega⟩
      · have h3 : l[j].kind ≠ 0 := by simpa using h3
        rw [if_neg h3, List.append_nil] at hsnoc
        rw [show others [l[j]] = [l[j]] by simp [others, h3]] at hosnoc
        refine testK_true (by simp; omega) ?_
        ((conv => whnf); (repeat ((with_reducible refine Rest.mk ?_); (conv => whnf))))
        refine tok_take hjn (by simp [sz61]) (sz61 _) ?_
        generalize l[j] = t at hosnoc
        ((conv => whnf); (repeat ((with_reducible refine Rest.mk ?_); (conv => whnf))))
        refine push_tok (t := t) (sz61 _) (by61 _) (fun R h => zero_tok R h _) rfl rfl (by simp [sz61, sub, Tok.cells]) (by simp; omega) ?_
        ((conv => whnf); (repeat ((with_reducible refine Rest.mk ?_); (conv => whnf))))
        rw [wrap_succ (by omega), List.append_assoc, ← hosnoc, ← hsnoc]
        exact ⟨j + 1, _, _, .low (τ := [0, 1, 5, 3]) (Parts.low (by decide) (.some rfl (.obj _) (.some rfl (.cells (.flat (flat_texts _))) (part_to (.inr rfl) (.some rfl (.cells (.flat (flat_toks l))) .nil))))) (by (repeat' (first | exact LowL.nil _ | refine LowL.cons (.und _) ?_ | refine LowL.cons (.int _ _) ?_ | refine LowL.cons (.str _) ?_ | refine LowL.cons (.bool _) ?_ | refine LowL.cons (.ptr rfl) ?_ | refine LowL.cons (.sl rfl) ?_ | refine LowL.cons (low_vsS _ _) ?_ | refine LowL.cons (low_vsI _ _) ?_ | refine LowL.cons (low_tx rfl _) ?_ | refine LowL.cons .nilS ?_ | refine LowL.cons .nilP ?_ | refine LowL.cons (low_acc rfl _) ?_ | refine LowL.cons (low_toSl rfl _) ?_ | refine LowL.cons (low_bySl rfl _) ?_ | refine LowL.cons (low_toSlE rfl (by simp)) ?_))) (Nat.zero_le _) (fun i hi => by simp at hi), ⟨hjn, rfl, rfl⟩, by omega⟩
    · have hjx : j = l.length := by simp at h2; omega
      subst hjx
      rw [List.take_length] at *
      rw [wrap_succ (by omega)]
      exact ⟨(k + 1, .rdr N, _, _), _, _, .low (τ := [0, 1, 2]) (Parts.low (by decide) (.some rfl (.obj _) (.some rfl (.cells (.flat (flat_texts _))) (part_to (.inr rfl) .nil)))) (by (repeat' (first | exact LowL.nil _ | refine LowL.cons (.und _) ?_ | refine LowL.cons (.int _ _) ?_ | refine LowL.cons (.str _) ?_ | refine LowL.cons (.bool _) ?_ | refine LowL.cons (.ptr rfl) ?_ | refine LowL.cons (.sl rfl) ?_ | refine LowL.cons (low_vsS _ _) ?_ | refine LowL.cons (low_vsI _ _) ?_ | refine LowL.cons (low_tx rfl _) ?_ | refine LowL.cons .nilS ?_ | refine LowL.cons .nilP ?_ | refine LowL.cons (low_acc rfl _) ?_ | refine LowL.cons (low_toSl rfl _) ?_ | refine LowL.cons (low_bySl rfl _) ?_ | refine LowL.cons (low_toSlE rfl (by simp)) ?_))) (Nat.zero_le _) (fun i hi => by simp at hi), ⟨hinv _ _ rfl rfl, rfl, rfl⟩, by simp; omega⟩
  · have hkx : k = parts.length := by simp at h1; omega
    subst hkx
    rw [List.take_length, hpf] at hev hrel
    rw [hb.2] at hev
    obtain ⟨rfl, rfl⟩ : all = data ∧ [⟨2, 253, o, []⟩, ⟨3, 0, o, text⟩] = other := ⟨congrArg Prod.fst hev, congrArg Prod.snd hev⟩
    have hst := rel_st hrel hb.1
    rw [show toSl 2 (optL [(⟨2, 253, o, []⟩ : Tok), ⟨3, 0, o, text⟩]) = .sl 2 0 2 2 from rfl, show toRow (optL [(⟨2, 253, o, []⟩ : Tok), ⟨3, 0, o, text⟩]) = .cells (some 4) [.int .i64 2, .int .i64 253, .int .i64 o, .str [], .int .i64 3, .int .i64 0, .int .i64 o, .str text] from rfl]
    ((conv => whnf); (repeat ((with_reducible refine Rest.mk ?_); (conv => whnf))))
    rw [same_true]
    ((conv => whnf); (repeat ((with_reducible refine Rest.mk ?_); (conv => whnf))))
    refine eq_tok 4 ⟨2, 253, o, []⟩ ⟨2, 253, o, []⟩ _ ?_
    rw [decide_eq_true rfl]
    ((conv => whnf); (repeat ((with_reducible refine Rest.mk ?_); (conv => whnf))))
    refine eq_tok 4 ⟨3, 0, o, text⟩ ⟨3, 0, o, text⟩ _ ?_
    rw [decide_eq_true rfl]
    ((conv => whnf); (repeat ((with_reducible refine Rest.mk ?_); (conv => whnf))))
    obtain ⟨r, rfl⟩ := hsome (by have := List.length_pos_iff.2 hp0; omega)
    have hst : r.st = 0 := hst
    refine CallT.objAt (r := 0) (g := fun o' v => o' = .rdr r ∧ v = .bool (decide (r.st = 0))) ((whole_ok r).mono fun v M' ch h _ => ⟨_, ⟨rfl, h.1⟩, h.2.1⟩) rfl (.cons (.ptr rfl) (.nil _)) ?_
    rintro o' v ⟨rfl, rfl⟩
    rw [decide_eq_true hst]
    ((conv => whnf); (repeat ((with_reducible refine Rest.mk ?_); (conv => whnf))))
    exact htrue _
end Go.Am
end
section
namespace Go.Am
open Go Go.Proofs Go.RowKit Go.ChangeShapes Go.WideShapes Go.ChangeAt

section
variable {O : Type} {unf : O → List (AO O)} {P : Program}

/-- in a world that is shaped the library's variables hold what they may -/
theorem globs_ok {W : World} (hsh : W.ShapedOpen Tryd.prog) : ∀ b p, (b, p) ∈ globs → ∃ A, (allImm W).imm b = some A ∧ p A := by
  intro b p hb
  have e : globs = [(0, fun A => ∃ m, A[0]? = some (.int .i64 m))] := rfl
  rw [e] at hb
  simp only [List.mem_singleton, Prod.mk.injEq] at hb
  obtain ⟨rfl, rfl⟩ := hb
  obtain ⟨m, hm⟩ := Tryd.laysM155.s1_3 W hsh
  have hm : W.cell? ⟨0, 0, none⟩ = some (.int .i64 m) := hm
  unfold World.cell? at hm
  split at hm
  · rename_i c t fz hc
    simp at hm
    exact ⟨c, allImm_of hc, m, by simpa using hm⟩
  · cases hm

theorem start_rep {W : World} (hg : ∀ b p, (b, p) ∈ globs → ∃ A, (allImm W).imm b = some A ∧ p A) : Rep unf (allImm W) [] W (fun _ => False) where
  dom _ _ := rfl
  own := ⟨fun _ _ => False, fun i h => by simp at h, fun _ _ _ _ h => h.elim, fun _ _ h => h⟩
  lt _ h := h.elim
  imm b A h := by
    refine ⟨id, ?_⟩
    simp only [allImm] at h
    split at h
    · rename_i A' t fz hA
      cases h; exact ⟨t, fz, hA, trivial⟩
    · cases h
  glob := hg

/-- the law answers true, and leaves all that was as it was -/
theorem law_calls {f : FuncId} {args : List AV} {cargs : Array Value} {W : World} (hcall : ∀ (args : Array Value) (w : World), (callFunc f args).run P w = .ok (.enter f args) w)
    (hg : ∀ b p, (b, p) ∈ globs → ∃ A, (allImm W).imm b = some A ∧ p A) (hv : VRelL (allImm W) args cargs) (spec : CallT unf P f args [] fun v M' _ => v = .bool true ∧ M' = []) :
    Calls P f cargs W fun e W' => e = .returned (.bool true) ∧ Below W.heap.size W W' := by
  rcases spec (allImm W) (fun _ => False) W cargs (start_rep hg) hv with ⟨cv, w', hrun, _⟩ | ⟨_, hc⟩
  · rw [hcall] at hrun; cases hrun
  · refine hc.mono ?_
    rintro e w' ⟨cv, rfl, κ', S', v, M', ch, ⟨rfl, rfl⟩, hR', hv', hP, _⟩
    obtain rfl := hv'.bool_inv
    exact ⟨rfl, ⟨hP.rest.2.1, hP.rest.1, hP.rest.2.2, hP.grow, fun k hk => hP.same k hk id⟩⟩

theorem cell_block {w : World} {b o : Nat} {v : Value} (h : w.cell? ⟨b, o, none⟩ = some v) : ∃ A t fz, w.heap[b]? = some (.cells A t fz) ∧ A[o]? = some v := by
  unfold World.cell? at h
  split at h
  · rename_i c t fz hc
    exact ⟨c, t, fz, hc, by simpa using h⟩
  · cases h
theorem cell_spot {w : World} {a : Addr} {v : Value} (h : w.cell? a = some v) : a = ⟨a.block, a.off, none⟩ := by
  obtain ⟨b, o, s⟩ := a
  cases s with
  | none => rfl
  | some x =>
    unfold World.cell? at h
    split at h
    · simp at h
    · cases h

/-- a slice of one-cell values, as a row that nobody writes -/
theorem rel_row {W : World} {a : Addr} {len cap : Nat} {l : List AV} {f : Nat → Value} (hl : l.length = len) (hc : len ≤ cap) (hcell : ∀ i, i < len → W.cell? (a.add i) = some (f i) ∧ one (f i)) (hv : ∀ i (h : i < l.length), VRel (allImm W) l[i] (f i)) : VRel (allImm W) (.vs l len) (.slice (some a) len cap) := by
  by_cases h0 : len = 0
  · subst h0
    obtain rfl : l = [] := List.length_eq_zero_iff.1 hl
    exact .vs0
  · have h1 := (hcell 0 (by omega)).1
    have e0 : a.add 0 = a := by simp [Addr.add]
    rw [e0] at h1
    have ha := cell_spot h1
    rw [ha] at h1 ⊢
    obtain ⟨A, t, fz, hA, _⟩ := cell_block h1
    refine .vs f hc (allImm_of hA) (fun i hi => ?_) hv
    obtain ⟨h2, h3⟩ := hcell i (by omega)
    rw [ha, addr_add] at h2
    rw [cell_of hA] at h2
    exact ⟨h2, h3⟩

variable {H : Type} {enc : TypeId × Value → H}

theorem rel_strs {W : World} {t e : TypeId} {v : Value} {d : DataW H} {ps : List MemPlace} {base : Nat} {spare : Nat → Bool} {held : Bool} (ht : P.underlying t = some (.slice e)) (he : P.underlying e = some .string) (hc : P.cellsOf e = 1) (hcs : ∀ q len cap, v = .slice q len cap → v.cells = #[v])
    (hsl : ∃ q len cap, v = .slice q len cap) (h : DataW.Trod enc P W base spare held t v d ps) : ∃ xs : List (List UInt8), VRel (allImm W) (.vs (xs.map .str) xs.length) v := by
  obtain ⟨fuel, hf⟩ := h
  obtain ⟨q, len, cap, rfl⟩ := hsl
  have hf : DataW.trod enc P W base spare held fuel t [.slice q len cap] = some (d, ps) := by simpa [Value.cells] using hf
  rcases Go.Deep.open_strs ht he hc hf with ⟨h1, _⟩ | ⟨a, len', cap', m, Sx, h1, _, h2, _, hm, _, hcell⟩
  · simp only [List.cons.injEq, and_true] at h1
    rw [h1]
    exact ⟨[], .vs0⟩
  · simp only [List.cons.injEq, and_true] at h1
    rw [h1]
    have hlm : len' ≤ m := by rw [hm]; split <;> omega
    refine ⟨(List.range len').map fun i => (Sx i).data.toList, ?_⟩
    have hn : ((List.range len').map fun i => (Sx i).data.toList).length = len' := by simp
    rw [hn]
    refine rel_row (f := fun i => .string (Sx i)) (by simp) h2 (fun i hi => ⟨(hcell i (by omega)).1, rfl⟩) fun i hi => ?_
    simp only [List.length_map, List.length_range] at hi
    simp only [List.getElem_map, List.getElem_range]
    exact .str _

theorem args_stay {ts : List TypeId} {vs : List Value} {ds : List (DataW H)} {ps : List MemPlace} {W W' : World} (hl : laidOutB P = true) (hr : ∀ t, t ∈ ts → P.readableRec t = true ∧ t < P.types.size) (h : DataW.TrodAll enc P W 0 (fun _ => true) true ts vs ds ps)
    (hb : Below W.heap.size W W') (hlt : ∀ x, x ∈ ps → x.block < W.heap.size) (sp : Nat → Bool) (hs : ∀ p, p ∈ ps → sp p.block = true) : DataW.TrodAll enc P W' 0 sp true ts vs ds ps := by
  induction ts generalizing vs ds ps with
  | nil =>
    obtain ⟨rfl, rfl, rfl⟩ := trodAll_nil h
    exact h
  | cons t ts ih =>
    obtain ⟨v, vs1, d, ds1, a, b, rfl, rfl, rfl, h1, h2⟩ := trodAll_cons h
    exact ⟨a, b, WideElems.Trod_stays hl (hr t (by simp)).1 (hr t (by simp)).2 h1 (fun x hx => hb.same (hlt x (by simp [hx]))) (fun p hp => hs p (by simp [hp])),
      ih (fun t ht => hr t (by simp [ht])) h2 (fun x hx => hlt x (by simp [hx])) (fun p hp => hs p (by simp [hp])), rfl⟩

/-- what a law's row asks behind the call -/
theorem law_post {fn : Func} {s : ChangeSpec} {W W' : World} {args : Array Value} {ds gs : List (DataW H)} {before : List MemPlace} {bt : TypeId} (hl : laidOutB P = true) (hr : ∀ t, t ∈ fn.params.toList → P.readableRec t = true ∧ t < P.types.size) (hvars : s.vars = [])
    (hW : DataW.Whole enc P fn.params.toList s.vars false W args.toList ds gs before) (hrt : fn.resultTypes = #[bt]) (hbt : P.underlying bt = some .bool)
    (hs : s.fn H (ds ++ gs) = { results := [.lit (.bool true)], args := ds }) (hb : Below W.heap.size W W') : s.post enc P fn false true false false W args (.bool true) W' := by
  have hlt := hW.lt
  have hW' := hW
  obtain ⟨p, q, hA, hV, rfl, hfz, hnd⟩ := hW
  rw [hvars] at hV
  obtain ⟨rfl, rfl⟩ := trodVars_none hV
  refine ⟨ds, [], p ++ [], [], p, [], hW', ?_, ?_, ?_, ?_, fun h => by cases h⟩
  · rw [hs, hrt]
    exact trodAll_cons_mk (shut_bool hbt _) trodAll_mk0
  · rw [hs]
    exact args_stay hl hr hA hb (fun x hx => hlt x (by simp [hx])) _ (fun x hx => by simpa using hlt x (by simp [hx]))
  · rw [hs, hvars]; exact hV
  · exact hb.frame _
end
end Go.Am
end
section
namespace Go.Am
open Go Go.Proofs Go.RowKit Go.ChangeShapes Go.WideShapes Go.ChangeAt

variable {P : Program} {H : Type} {enc : TypeId × Value → H}

theorem rel_ints {W : World} {t e : TypeId} {k : IntKind} {v : Value} {d : DataW H} {ps : List MemPlace} {base : Nat} {spare : Nat → Bool} {held : Bool} (ht : P.underlying t = some (.slice e)) (he : P.underlying e = some (.int k)) (hc : P.cellsOf e = 1) (hcs : ∀ q len cap, v = .slice q len cap → v.cells = #[v])
    (hsl : ∃ q len cap, v = .slice q len cap) (h : DataW.Trod enc P W base spare held t v d ps) : ∃ xs : List Int, VRel (allImm W) (.vs (xs.map (.int k)) xs.length) v ∧ ∀ n, n ∈ xs → (Lit.int k n).wf = true := by
  obtain ⟨fuel, hf⟩ := h
  obtain ⟨q, len, cap, rfl⟩ := hsl
  have hf : DataW.trod enc P W base spare held fuel t [.slice q len cap] = some (d, ps) := by simpa [Value.cells] using hf
  rcases open_ints ht he hc hf with ⟨h1, _⟩ | ⟨a, len', cap', zs, h1, _, h2, _, hm, _, hcell, hwf⟩
  · simp only [List.cons.injEq, and_true] at h1
    rw [h1]
    exact ⟨[], .vs0, by simp⟩
  · simp only [List.cons.injEq, and_true] at h1
    rw [h1]
    have hlm : len' ≤ zs.length := by rw [hm]; split <;> omega
    refine ⟨zs.take len', ?_, fun n hn => hwf n (List.mem_of_mem_take hn)⟩
    have hn : (zs.take len').length = len' := by simp; omega
    rw [hn]
    refine rel_row (f := fun i => .int k (zs.getD i 0)) (by simp; omega) h2 (fun i hi => ⟨hcell i (by omega), rfl⟩) fun i hi => ?_
    simp only [List.length_map, hn] at hi
    simp only [List.getElem_map, List.getElem_take]
    rw [List.getD_eq_getElem?_getD, List.getElem?_eq_getElem (by omega)]
    exact .int _ _

theorem wf_i64 {n : Int} (h : (Lit.int .i64 n).wf = true) : -9223372036854775808 ≤ n ∧ n ≤ 9223372036854775807 := by
  simp only [Lit.wf, IntKind.min, IntKind.max, IntKind.signed, IntKind.bits, Bool.and_eq_true, decide_eq_true_eq, if_true] at h
  omega
end Go.Am
end
