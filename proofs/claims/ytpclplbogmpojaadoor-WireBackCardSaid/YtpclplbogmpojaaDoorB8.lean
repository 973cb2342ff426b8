/-
  Part 8 of a proof: an abstract machine for the program, and what pieces of the program compute (WOpt, RefData, WPure, Book, WLaw3). No condition of its own.
-/
import Derived.Test.YtpclplbogmpojaaDoorB7
set_option linter.unusedSimpArgs false
set_option linter.unusedVariables false
section
set_option linter.unusedSimpArgs false
namespace Go.Am
open Go Go.Proofs

variable {O : Type} {unf : O → List (AO O)}

theorem wrap_u8_in {n : Int} (h0 : 0 ≤ n) (h1 : n ≤ 255) : IntKind.u8.wrap n = n := by rw [IntKind.wrap_u8]; omega

set_option maxRecDepth 100000
attribute [local irreducible] CallT Ent
theorem option_ok (cmd opt : Int) : CallT unf Tryd.prog 13 [.int .i64 cmd, .int .i64 opt] [] (fun v M' ch => v = (if 251 ≤ cmd ∧ cmd ≤ 254 ∧ 0 ≤ opt ∧ opt ≤ 255 then .tup [.str [255, UInt8.ofNat cmd.toNat, UInt8.ofNat opt.toNat], .int .i64 0] else .tup [.str [], .int .i64 1]) ∧ M' = [] ∧ ch = []) := by
  refine CallT.by_body Tryd.func13 rfl Tryd.call13 rfl (.refl _ _ _) ?_
  ((conv => whnf); (repeat ((with_reducible refine Rest.mk ?_); (conv => whnf))))
  repeat' (first | (refine testK_true (b := drawOk _ _ _) (by kernel_rfl) ?_; ((conv => whnf); (repeat ((with_reducible refine Rest.mk ?_); (conv => whnf))))) | (refine testK_split (fun h => ?_) (fun h => ?_) <;> ((conv => whnf); (repeat ((with_reducible refine Rest.mk ?_); (conv => whnf))))))
  all_goals simp only [decide_eq_true_eq, decide_eq_false_iff_not] at *
  all_goals try exact fin.flat (v' := .tup [.str [], .int .i64 1]) (.tupL (.cons (.str _) (.cons (.int _ _) (.nil _)))) ⟨by rw [if_neg (by omega)], rfl, rfl⟩
  · rw [wrap_u8_in (by omega) (by omega), wrap_u8_in (by omega) (by omega)]
    exact fin.flat (v' := .tup [.str [255, UInt8.ofNat cmd.toNat, UInt8.ofNat opt.toNat], .int .i64 0]) (.tupL (.cons (.str _) (.cons (.int _ _) (.nil _)))) ⟨by rw [if_pos (by omega)], rfl, rfl⟩
  · have e1 := wrap_u8_in (n := cmd) (by omega) (by omega)
    have e2 := wrap_u8_in (n := opt) (by omega) (by omega)
    simp only [e1, e2] at *
    simp [sub, AV.isB] at *
    omega

def wireSub (o : Int) (s : List UInt8) : AV :=
  if o < 0 ∨ 255 < o then .tup [.str [], .int .i64 1]
  else if 40 < s.length then .tup [.str [], .int .i64 4]
  else .tup [.str ([255, 250, UInt8.ofNat o.toNat] ++ dbl s ++ [255, 240]), .int .i64 0]

theorem tup2_low (s : List UInt8) (n : Int) : Low [] (.tup [.str s, .int .i64 n]) (.tup [.str s, .int .i64 n]) := .tupL (.cons (.str _) (.cons (.int _ _) (.nil _)))

theorem sub_ok (o : Int) (xs : List (List UInt8)) (hx : xs.length ≤ 1000000) (hl : xs.flatten.length ≤ 1000000) : CallT unf Tryd.prog 14 [.int .i64 o, .vs (xs.map .str) xs.length] [] (fun v M' ch => v = wireSub o xs.flatten ∧ M' = [] ∧ ch = []) := by
  refine CallT.by_body Tryd.func14 rfl Tryd.call14 rfl (.refl _ _ _) ?_
  ((conv => whnf); (repeat ((with_reducible refine Rest.mk ?_); (conv => whnf))))
  refine (join_ok (.inr (.inl rfl)) (by omega) (by omega)).mono ?_
  rintro v M' ch ⟨rfl, rfl, rfl⟩ _
  generalize hs : xs.flatten = s at hl ⊢
  ((conv => whnf); (repeat ((with_reducible refine Rest.mk ?_); (conv => whnf))))
  refine testK_split (fun h => ?_) (fun h => ?_) <;> ((conv => whnf); (repeat ((with_reducible refine Rest.mk ?_); (conv => whnf))))
  · simp only [decide_eq_true_eq] at h
    exact fin.flat (tup2_low _ _) ⟨by rw [wireSub, if_pos (.inl h)], rfl, rfl⟩
  refine testK_split (fun h2 => ?_) (fun h2 => ?_) <;> ((conv => whnf); (repeat ((with_reducible refine Rest.mk ?_); (conv => whnf))))
  · simp only [decide_eq_true_eq] at h2
    exact fin.flat (tup2_low _ _) ⟨by rw [wireSub, if_pos (.inr h2)], rfl, rfl⟩
  simp only [decide_eq_false_iff_not] at h h2
  refine testK_split (fun h3 => ?_) (fun h3 => ?_) <;> ((conv => whnf); (repeat ((with_reducible refine Rest.mk ?_); (conv => whnf))))
  · simp only [decide_eq_true_eq] at h3
    exact fin.flat (tup2_low _ _) ⟨by rw [wireSub, if_neg (by omega), if_pos (by omega)], rfl, rfl⟩
  simp only [decide_eq_false_iff_not] at h3
  refine testK_true (b := drawOk _ _ _) (by kernel_rfl) ?_
  ((conv => whnf); (repeat ((with_reducible refine Rest.mk ?_); (conv => whnf))))
  rw [wrap_u8_in (by omega) (by omega)]
  have hd := dbl_length s
  refine testK_true (by simp [AV.isB]; omega) ?_
  ((conv => whnf); (repeat ((with_reducible refine Rest.mk ?_); (conv => whnf))))
  repeat' (first | (refine testK_true (by first | decide | (simp; omega)) ?_; ((conv => whnf); (repeat ((with_reducible refine Rest.mk ?_); (conv => whnf))))))
  refine (double_ok _ (by omega) _).mono ?_
  rintro v M' ch ⟨rfl, rfl, rfl⟩ _
  ((conv => whnf); (repeat ((with_reducible refine Rest.mk ?_); (conv => whnf))))
  repeat' (first | (refine testK_true (by simp [decB]; omega) ?_; ((conv => whnf); (repeat ((with_reducible refine Rest.mk ?_); (conv => whnf))))))
  exact fin.flat (v' := .tup [.str ([255, 250, UInt8.ofNat o.toNat] ++ dbl s ++ [255, 240]), .int .i64 0]) (tup2_low _ _) ⟨by rw [wireSub, if_neg (by omega), if_neg (by omega)], rfl, rfl⟩
end Go.Am
end
section
set_option linter.unusedSimpArgs false
namespace Go.Am
open Go Go.Proofs

variable {O : Type} {unf : O → List (AO O)}

/-- a byte as it is sent, and what follows it -/
def sentAs (bin : Bool) (b : UInt8) (r : List UInt8) : List UInt8 := [b] ++ (if b = 255 then [255] else []) ++ (if b = 13 ∧ bin = false ∧ r.head? ≠ some 10 then [0] else [])
def refData (bin : Bool) : List UInt8 → List UInt8
  | [] => []
  | b :: r => sentAs bin b r ++ refData bin r

theorem refData_eq (bin : Bool) (s : List UInt8) : refData bin s = wireData bin s := by
  unfold wireData
  cases bin
  · simp only [Bool.false_eq_true, if_false]
    induction s with
    | nil => rfl
    | cons b r ih =>
      rw [refData, ih, cr]
      unfold sentAs
      by_cases h : b = 13 ∧ r.head? ≠ some 10
      · have h1 := h.1
        have h2 := h.2
        rw [if_pos h, dbl_cons, dbl_cons]
        simp [h1, h2]
      · rw [if_neg h, dbl_cons]
        have : ¬(b = 13 ∧ false = false ∧ r.head? ≠ some 10) := fun hc => h ⟨hc.1, hc.2.2⟩
        rw [if_neg this]
        by_cases hb : b = 255 <;> simp [hb]
  · simp only [if_true]
    induction s with
    | nil => rfl
    | cons b r ih =>
      rw [refData, ih, dbl_cons]
      unfold sentAs
      by_cases hb : b = 255 <;> simp [hb]

theorem refData_length (bin : Bool) (s : List UInt8) : (refData bin s).length ≤ 3 * s.length := by
  induction s with
  | nil => simp [refData]
  | cons b r ih =>
    rw [refData]
    unfold sentAs
    split <;> split <;> simp <;> omega

theorem u8_beqG (c : UInt8) (n : UInt8) : decide ((c.toNat : Int) = (n.toNat : Int)) = (c == n) := by
  by_cases h : c = n
  · subst h; simp
  · have : ¬(c.toNat : Int) = (n.toNat : Int) := fun hc => h (UInt8.toNat_inj.1 (by exact_mod_cast hc))
    simp [h, this]
theorem u8_eqG (c : UInt8) (n : UInt8) : decide ((c.toNat : Int) = (n.toNat : Int)) = decide (c = n) := by
  by_cases h : c = n
  · subst h; simp
  · have : ¬(c.toNat : Int) = (n.toNat : Int) := fun hc => h (UInt8.toNat_inj.1 (by exact_mod_cast hc))
    simp [h, this]

set_option maxRecDepth 100000
attribute [local irreducible] CallT Ent pushA

theorem rdata_ok (bin : Bool) (s : List UInt8) (hl : s.length ≤ 1000000) : CallT unf Tryd.prog 17 [.bool bin, .str s] [] (fun v M' _ => v = .str (refData bin s) ∧ M' = []) := by
  refine CallT.by_body Tryd.func17 rfl Tryd.call17 rfl (.refl _ _ _) ?_
  ((conv => whnf); (repeat ((with_reducible refine Rest.mk ?_); (conv => whnf))))
  refine .inl (loopG (α := Nat × Option (List UInt8)) (inv := fun a => a.1 ≤ s.length ∧ a.2.getD [] ++ refData bin (s.drop a.1) = refData bin s)
    (st := fun a => [.bool bin, .str s, .und, .und, .str [], accSl 0 a.2, .int .i64 (a.1 : Nat), .und, .und, .und, .und, .und, .und, .und, .und, .und, .und, .und, .und, .und, .und, .und, .und, .und, .und, .und, .und, .und, .und, .und, .und, .und, .und, .und, .und, .und, .und, .und, .und, .und, .und, .und, .und, .und, .und, .und, .und, .und, .und, .und, .und, .und, .und])
    (mm := fun a => [accRow a.2]) (μ := fun a => s.length - a.1) (0, none) (by simp) ?_ ?_)
  · exact .low (τ := [0]) (Parts.low (by decide) (.dead .nil)) (by (repeat' (first | exact LowL.nil _ | refine LowL.cons (.und _) ?_ | refine LowL.cons (.int _ _) ?_ | refine LowL.cons (.str _) ?_ | refine LowL.cons (.bool _) ?_ | refine LowL.cons (.ptr rfl) ?_ | refine LowL.cons (.sl rfl) ?_ | refine LowL.cons (low_vsS _ _) ?_ | refine LowL.cons (low_vsI _ _) ?_ | refine LowL.cons (low_tx rfl _) ?_ | refine LowL.cons .nilS ?_ | refine LowL.cons .nilP ?_ | refine LowL.cons (low_acc rfl _) ?_ | refine LowL.cons (low_toSl rfl _) ?_ | refine LowL.cons (low_bySl rfl _) ?_ | refine LowL.cons (low_toSlE rfl (by simp)) ?_))) (Nat.zero_le _) (fun i hi => by simp at hi)
  rintro ⟨k, acc⟩ ⟨hk, hacc⟩
  dsimp only at hk hacc ⊢
  have hal : (acc.getD []).length ≤ 3 * s.length := by
    have := refData_length bin s
    rw [← hacc] at this; simp at this; omega
  ((conv => whnf); (repeat ((with_reducible refine Rest.mk ?_); (conv => whnf))))
  refine testK_split (fun h => ?_) (fun h => ?_) <;> ((conv => whnf); (repeat ((with_reducible refine Rest.mk ?_); (conv => whnf))))
  · simp only [decide_eq_true_eq] at h
    have hkn : k < s.length := by omega
    have e1 : ((k : Int)).toNat = k := by simp
    rw [List.drop_eq_getElem_cons hkn, refData] at hacc
    have hget : s.getD k 0 = s[k] := by simp [hkn]
    refine testK_true (by simp; omega) ?_
    ((conv => whnf); (repeat ((with_reducible refine Rest.mk ?_); (conv => whnf))))
    rw [e1, hget]
    generalize hb : s[k] = b at hacc ⊢
    have done : ∀ x : List UInt8, x = sentAs bin b (s.drop (k + 1)) → (k + 1 ≤ s.length ∧ (some (acc.getD [] ++ x)).getD [] ++ refData bin (s.drop (k + 1)) = refData bin s) := by
      intro x hx
      subst hx
      exact ⟨hkn, by simpa using hacc⟩
    have hw := wrap_succ (k := k) (by omega)
    have hhd : k + 1 < s.length → (s.drop (k + 1)).head? = some (s.getD (k + 1) 0) := fun hk1 => by rw [List.drop_eq_getElem_cons hk1]; simp [hk1]
    refine push_bytes (sz5 _) (by5 _) (fun R h => zero_uint8 R h _) (bs := [b]) rfl (by simp [sz5, sub, encB]) rfl (by simp) (by simp; omega) ?_
    ((conv => whnf); (repeat ((with_reducible refine Rest.mk ?_); (conv => whnf))))
    refine testK_true (by simp; omega) ?_
    ((conv => whnf); (repeat ((with_reducible refine Rest.mk ?_); (conv => whnf))))
    rw [e1, hget, hb, show decide ((b.toNat : Int) = 255) = (b == 255) from u8_beqG b 255]
    refine testK_split (fun h2 => ?_) (fun h2 => ?_)
    · ((conv => whnf); (repeat ((with_reducible refine Rest.mk ?_); (conv => whnf))))
      have h2 : b = 255 := by simpa using h2
      have h13 : b ≠ 13 := by rw [h2]; decide
      have hs := done [b, 255] (by unfold sentAs; rw [if_pos h2, if_neg (fun hc => h13 hc.1)]; rfl)
      refine push_bytes (acc := some (acc.getD [] ++ [b])) (id := 2) (sz5 _) (by5 _) (fun R h => zero_uint8 R h _) (bs := [255]) rfl (by simp [sz5, sub, encB]) rfl (by simp) (by simp; omega) ?_
      ((conv => whnf); (repeat ((with_reducible refine Rest.mk ?_); (conv => whnf))))
      refine testK_true (by simp; omega) ?_
      ((conv => whnf); (repeat ((with_reducible refine Rest.mk ?_); (conv => whnf))))
      rw [e1, hget, hb, show decide ((b.toNat : Int) = 13) = (b == 13) from u8_beqG b 13]
      refine testK_false (by simp [h13]) ?_
      ((conv => whnf); (repeat ((with_reducible refine Rest.mk ?_); (conv => whnf))))
      rw [hw]
      exact ⟨(k + 1, some (acc.getD [] ++ [b] ++ [255])), _, _, .low (τ := [4]) (Parts.low (by decide) (part_acc (.inr rfl) .nil)) (by (repeat' (first | exact LowL.nil _ | refine LowL.cons (.und _) ?_ | refine LowL.cons (.int _ _) ?_ | refine LowL.cons (.str _) ?_ | refine LowL.cons (.bool _) ?_ | refine LowL.cons (.ptr rfl) ?_ | refine LowL.cons (.sl rfl) ?_ | refine LowL.cons (low_vsS _ _) ?_ | refine LowL.cons (low_vsI _ _) ?_ | refine LowL.cons (low_tx rfl _) ?_ | refine LowL.cons .nilS ?_ | refine LowL.cons .nilP ?_ | refine LowL.cons (low_acc rfl _) ?_ | refine LowL.cons (low_toSl rfl _) ?_ | refine LowL.cons (low_bySl rfl _) ?_ | refine LowL.cons (low_toSlE rfl (by simp)) ?_))) (Nat.zero_le _) (fun i hi => by simp at hi), ⟨⟨hs.1, by simpa using hs.2⟩, rfl, rfl⟩, by simp; omega⟩
    · ((conv => whnf); (repeat ((with_reducible refine Rest.mk ?_); (conv => whnf))))
      have h2 : b ≠ 255 := by simpa using h2
      refine testK_true (by simp; omega) ?_
      ((conv => whnf); (repeat ((with_reducible refine Rest.mk ?_); (conv => whnf))))
      rw [e1, hget, hb, show decide ((b.toNat : Int) = 13) = (b == 13) from u8_beqG b 13]
      refine testK_split (fun h3 => ?_) (fun h3 => ?_)
      · have h13 : b = 13 := by simpa using h3
        cases bin
        · ((conv => whnf); (repeat ((with_reducible refine Rest.mk ?_); (conv => whnf))))
          rw [hw]
          refine testK_split (fun hend => ?_) (fun hend => ?_)
          · have hk1 : k + 1 = s.length := by simp at hend; omega
            have hs := done [b, 0] (by unfold sentAs; rw [if_neg h2, if_pos ⟨h13, rfl, by rw [hk1]; simp⟩]; rfl)
            ((conv => whnf); (repeat ((with_reducible refine Rest.mk ?_); (conv => whnf))))
            refine push_bytes (acc := some (acc.getD [] ++ [b])) (id := 2) (sz5 _) (by5 _) (fun R h => zero_uint8 R h _) (bs := [0]) rfl (by simp [sz5, sub, encB]) rfl (by simp) (by simp; omega) ?_
            ((conv => whnf); (repeat ((with_reducible refine Rest.mk ?_); (conv => whnf))))
            rw [hw]
            exact ⟨(k + 1, some (acc.getD [] ++ [b] ++ [0])), _, _, .low (τ := [4]) (Parts.low (by decide) (part_acc (.inr rfl) .nil)) (by (repeat' (first | exact LowL.nil _ | refine LowL.cons (.und _) ?_ | refine LowL.cons (.int _ _) ?_ | refine LowL.cons (.str _) ?_ | refine LowL.cons (.bool _) ?_ | refine LowL.cons (.ptr rfl) ?_ | refine LowL.cons (.sl rfl) ?_ | refine LowL.cons (low_vsS _ _) ?_ | refine LowL.cons (low_vsI _ _) ?_ | refine LowL.cons (low_tx rfl _) ?_ | refine LowL.cons .nilS ?_ | refine LowL.cons .nilP ?_ | refine LowL.cons (low_acc rfl _) ?_ | refine LowL.cons (low_toSl rfl _) ?_ | refine LowL.cons (low_bySl rfl _) ?_ | refine LowL.cons (low_toSlE rfl (by simp)) ?_))) (Nat.zero_le _) (fun i hi => by simp at hi), ⟨⟨hs.1, by simpa using hs.2⟩, rfl, rfl⟩, by simp; omega⟩
          · have hk1 : k + 1 < s.length := by simp at hend; omega
            ((conv => whnf); (repeat ((with_reducible refine Rest.mk ?_); (conv => whnf))))
            rw [hw]
            refine testK_true (by simp; omega) ?_
            ((conv => whnf); (repeat ((with_reducible refine Rest.mk ?_); (conv => whnf))))
            rw [show (((k + 1 : Nat) : Int)).toNat = k + 1 by simp, show decide (((s.getD (k + 1) 0).toNat : Int) = 10) = (s.getD (k + 1) 0 == 10) from u8_beqG _ 10]
            refine testK_split (fun h10 => ?_) (fun h10 => ?_)
            · have hs := done [b, 0] (by unfold sentAs; rw [if_neg h2, if_pos ⟨h13, rfl, by rw [hhd hk1]; simpa using h10⟩]; rfl)
              ((conv => whnf); (repeat ((with_reducible refine Rest.mk ?_); (conv => whnf))))
              refine push_bytes (acc := some (acc.getD [] ++ [b])) (id := 2) (sz5 _) (by5 _) (fun R h => zero_uint8 R h _) (bs := [0]) rfl (by simp [sz5, sub, encB]) rfl (by simp) (by simp; omega) ?_
              ((conv => whnf); (repeat ((with_reducible refine Rest.mk ?_); (conv => whnf))))
              rw [hw]
              exact ⟨(k + 1, some (acc.getD [] ++ [b] ++ [0])), _, _, .low (τ := [4]) (Parts.low (by decide) (part_acc (.inr rfl) .nil)) (by (repeat' (first | exact LowL.nil _ | refine LowL.cons (.und _) ?_ | refine LowL.cons (.int _ _) ?_ | refine LowL.cons (.str _) ?_ | refine LowL.cons (.bool _) ?_ | refine LowL.cons (.ptr rfl) ?_ | refine LowL.cons (.sl rfl) ?_ | refine LowL.cons (low_vsS _ _) ?_ | refine LowL.cons (low_vsI _ _) ?_ | refine LowL.cons (low_tx rfl _) ?_ | refine LowL.cons .nilS ?_ | refine LowL.cons .nilP ?_ | refine LowL.cons (low_acc rfl _) ?_ | refine LowL.cons (low_toSl rfl _) ?_ | refine LowL.cons (low_bySl rfl _) ?_ | refine LowL.cons (low_toSlE rfl (by simp)) ?_))) (Nat.zero_le _) (fun i hi => by simp at hi), ⟨⟨hs.1, by simpa using hs.2⟩, rfl, rfl⟩, by simp; omega⟩
            · have hs := done [b] (by unfold sentAs; rw [if_neg h2, if_neg (fun hc => hc.2.2 (by rw [hhd hk1]; simpa using h10))]; rfl)
              ((conv => whnf); (repeat ((with_reducible refine Rest.mk ?_); (conv => whnf))))
              rw [hw]
              exact ⟨(k + 1, some (acc.getD [] ++ [b])), _, _, .low (τ := [2]) (Parts.low (by decide) (part_acc (.inr rfl) .nil)) (by (repeat' (first | exact LowL.nil _ | refine LowL.cons (.und _) ?_ | refine LowL.cons (.int _ _) ?_ | refine LowL.cons (.str _) ?_ | refine LowL.cons (.bool _) ?_ | refine LowL.cons (.ptr rfl) ?_ | refine LowL.cons (.sl rfl) ?_ | refine LowL.cons (low_vsS _ _) ?_ | refine LowL.cons (low_vsI _ _) ?_ | refine LowL.cons (low_tx rfl _) ?_ | refine LowL.cons .nilS ?_ | refine LowL.cons .nilP ?_ | refine LowL.cons (low_acc rfl _) ?_ | refine LowL.cons (low_toSl rfl _) ?_ | refine LowL.cons (low_bySl rfl _) ?_ | refine LowL.cons (low_toSlE rfl (by simp)) ?_))) (Nat.zero_le _) (fun i hi => by simp at hi), ⟨⟨hs.1, by simpa using hs.2⟩, rfl, rfl⟩, by simp; omega⟩
        · have hs := done [b] (by unfold sentAs; rw [if_neg h2, if_neg (fun hc => by simp at hc)]; rfl)
          ((conv => whnf); (repeat ((with_reducible refine Rest.mk ?_); (conv => whnf))))
          rw [hw]
          exact ⟨(k + 1, some (acc.getD [] ++ [b])), _, _, .low (τ := [2]) (Parts.low (by decide) (part_acc (.inr rfl) .nil)) (by (repeat' (first | exact LowL.nil _ | refine LowL.cons (.und _) ?_ | refine LowL.cons (.int _ _) ?_ | refine LowL.cons (.str _) ?_ | refine LowL.cons (.bool _) ?_ | refine LowL.cons (.ptr rfl) ?_ | refine LowL.cons (.sl rfl) ?_ | refine LowL.cons (low_vsS _ _) ?_ | refine LowL.cons (low_vsI _ _) ?_ | refine LowL.cons (low_tx rfl _) ?_ | refine LowL.cons .nilS ?_ | refine LowL.cons .nilP ?_ | refine LowL.cons (low_acc rfl _) ?_ | refine LowL.cons (low_toSl rfl _) ?_ | refine LowL.cons (low_bySl rfl _) ?_ | refine LowL.cons (low_toSlE rfl (by simp)) ?_))) (Nat.zero_le _) (fun i hi => by simp at hi), ⟨⟨hs.1, by simpa using hs.2⟩, rfl, rfl⟩, by simp; omega⟩
      · have h13 : b ≠ 13 := by simpa using h3
        have hs := done [b] (by unfold sentAs; rw [if_neg h2, if_neg (fun hc => h13 hc.1)]; rfl)
        ((conv => whnf); (repeat ((with_reducible refine Rest.mk ?_); (conv => whnf))))
        rw [hw]
        exact ⟨(k + 1, some (acc.getD [] ++ [b])), _, _, .low (τ := [2]) (Parts.low (by decide) (part_acc (.inr rfl) .nil)) (by (repeat' (first | exact LowL.nil _ | refine LowL.cons (.und _) ?_ | refine LowL.cons (.int _ _) ?_ | refine LowL.cons (.str _) ?_ | refine LowL.cons (.bool _) ?_ | refine LowL.cons (.ptr rfl) ?_ | refine LowL.cons (.sl rfl) ?_ | refine LowL.cons (low_vsS _ _) ?_ | refine LowL.cons (low_vsI _ _) ?_ | refine LowL.cons (low_tx rfl _) ?_ | refine LowL.cons .nilS ?_ | refine LowL.cons .nilP ?_ | refine LowL.cons (low_acc rfl _) ?_ | refine LowL.cons (low_toSl rfl _) ?_ | refine LowL.cons (low_bySl rfl _) ?_ | refine LowL.cons (low_toSlE rfl (by simp)) ?_))) (Nat.zero_le _) (fun i hi => by simp at hi), ⟨⟨hs.1, by simpa using hs.2⟩, rfl, rfl⟩, by simp; omega⟩
  · have hkx : k = s.length := by simp at h; omega
    subst hkx
    rw [List.drop_length, refData, List.append_nil] at hacc
    rcases acc with _ | acc
    · ((conv => whnf); (repeat ((with_reducible refine Rest.mk ?_); (conv => whnf))))
      have hnil : refData bin s = [] := hacc.symm
      exact fin.flat (.str _) ⟨by rw [hnil]; rfl, rfl⟩
    · obtain rfl : acc = refData bin s := hacc
      ((conv => whnf); (repeat ((with_reducible refine Rest.mk ?_); (conv => whnf))))
      refine testK_true (by simp [encB_length]) ?_
      rw [Nat.mul_one, sub_encB]
      refine testK_true (all_encB _) ?_
      rw [decB_encB]
      ((conv => whnf); (repeat ((with_reducible refine Rest.mk ?_); (conv => whnf))))
      exact fin.flat (.str _) ⟨rfl, rfl⟩

theorem roption_ok (cmd opt : Int) (h1 : 0 ≤ cmd ∧ cmd ≤ 255) (h2 : 0 ≤ opt ∧ opt ≤ 255) : CallT unf Tryd.prog 15 [.int .i64 cmd, .int .i64 opt] [] (fun v M' _ => v = .str [255, UInt8.ofNat cmd.toNat, UInt8.ofNat opt.toNat] ∧ M' = []) := by
  refine CallT.by_body Tryd.func15 rfl Tryd.call15 rfl (.refl _ _ _) ?_
  ((conv => whnf); (repeat ((with_reducible refine Rest.mk ?_); (conv => whnf))))
  rw [wrap_u8_in (by omega) (by omega), wrap_u8_in (by omega) (by omega)]
  refine testK_true (by simp [sub, AV.isB]; omega) ?_
  ((conv => whnf); (repeat ((with_reducible refine Rest.mk ?_); (conv => whnf))))
  exact fin.flat (v' := .str [255, UInt8.ofNat cmd.toNat, UInt8.ofNat opt.toNat]) (.str _) ⟨rfl, rfl⟩

theorem rsubm_ok (o : Int) (s : List UInt8) (h : 0 ≤ o ∧ o ≤ 255) (hl : s.length ≤ 1000000) : CallT unf Tryd.prog 16 [.int .i64 o, .str s] [] (fun v M' _ => v = .str ([255, 250, UInt8.ofNat o.toNat] ++ refData true s ++ [255, 240]) ∧ M' = []) := by
  refine CallT.by_body Tryd.func16 rfl Tryd.call16 rfl (.refl _ _ _) ?_
  ((conv => whnf); (repeat ((with_reducible refine Rest.mk ?_); (conv => whnf))))
  have hrl := refData_length true s
  refine testK_true (b := drawOk _ _ _) (by kernel_rfl) ?_
  ((conv => whnf); (repeat ((with_reducible refine Rest.mk ?_); (conv => whnf))))
  rw [wrap_u8_in (by omega) (by omega)]
  refine testK_true (by simp [AV.isB]; omega) ?_
  ((conv => whnf); (repeat ((with_reducible refine Rest.mk ?_); (conv => whnf))))
  refine (rdata_ok true s hl).mono ?_
  rintro v M' ch ⟨rfl, rfl⟩ _
  ((conv => whnf); (repeat ((with_reducible refine Rest.mk ?_); (conv => whnf))))
  repeat' (first | (refine testK_true (by simp [decB]; omega) ?_; ((conv => whnf); (repeat ((with_reducible refine Rest.mk ?_); (conv => whnf))))))
  exact fin.flat (v' := .str ([255, 250, UInt8.ofNat o.toNat] ++ refData true s ++ [255, 240])) (.str _) ⟨rfl, rfl⟩
end Go.Am
end
section
set_option linter.unusedSimpArgs false
namespace Go.Am
open Go Go.Proofs

/-- what was told: bytes, and all else -/
abbrev Told := List UInt8 × List Tok
def others (l : List Tok) : List Tok := l.filter fun t => t.kind ≠ 0
def addEv (a : Told) : Option Tok → Told
  | none => a
  | some t => if t.kind = 0 then (a.1 ++ t.text, a.2) else (a.1, a.2 ++ [t])
def Rdr.told (r : Rdr) : Told := (plainText (r.out.getD []) ++ r.data.getD [], others (r.out.getD []))
def evStep (a : Ref × Told) (c : UInt8) : Ref × Told := ((a.1.feed c).1, addEv a.2 (a.1.feed c).2)
def evs (R : Ref) (t : Told) (s : List UInt8) : Ref × Told := s.foldl evStep (R, t)

theorem evs_app (R : Ref) (t : Told) (s s' : List UInt8) : evs R t (s ++ s') = evs (evs R t s).1 (evs R t s).2 s' := by simp [evs]
theorem evs_cons (R : Ref) (t : Told) (c : UInt8) (s : List UInt8) : evs R t (c :: s) = evs (R.feed c).1 (addEv t (R.feed c).2) s := rfl

theorem addEv_shift (p : Told) (t : Told) (e : Option Tok) : addEv (p.1 ++ t.1, p.2 ++ t.2) e = (p.1 ++ (addEv t e).1, p.2 ++ (addEv t e).2) := by
  cases e with
  | none => rfl
  | some x => unfold addEv; by_cases h : x.kind = 0 <;> simp [h]
theorem evs_shift (p : Told) (s : List UInt8) : ∀ (R : Ref) (t : Told), evs R (p.1 ++ t.1, p.2 ++ t.2) s = ((evs R t s).1, (p.1 ++ (evs R t s).2.1, p.2 ++ (evs R t s).2.2)) := by
  induction s with
  | nil => intro R t; rfl
  | cons c s ih =>
    intro R t
    rw [evs_cons, evs_cons, addEv_shift, ih]

theorem others_app (l m : List Tok) : others (l ++ m) = others l ++ others m := by simp [others]

/-- the document's reader tells the same, token by token -/
theorem all_plain (s : List UInt8) : ∀ (R : Ref) (l : List Tok) (o : List Tok), plainText (s.foldl Ref.add (R, l)).2 = (evs R (plainText l, o) s).2.1 := by
  induction s with
  | nil => intro R l o; rfl
  | cons c s ih =>
    intro R l o
    rw [evs_cons]
    have key : ∃ o', addEv (plainText l, o) (R.feed c).2 = (plainText (Ref.add (R, l) c).2, o') := by
      unfold Ref.add
      cases hf : (R.feed c).2 with
      | none => exact ⟨o, rfl⟩
      | some t =>
        simp only [addEv]
        have : plainText (addTok l t) = plainText l ++ (if t.kind = 0 then t.text else []) := by
          unfold addTok
          rcases List.eq_nil_or_concat l with rfl | ⟨init, x, rfl⟩
          · simp [plainText]
          · rw [List.concat_eq_append]
            simp only [List.getLast?_append, List.getLast?_singleton, Option.some_or, List.dropLast_concat]
            split
            · rename_i h; simp [plainText, h.1, h.2]
            · simp [plainText]
        rw [this]
        split
        · exact ⟨o, rfl⟩
        · exact ⟨o ++ [t], by simp⟩
    obtain ⟨o', ho⟩ := key
    rw [ho]
    exact ih _ _ _

theorem refPlain_evs (bin : Bool) (s : List UInt8) : refPlain bin s = (evs (.new bin) ([], []) s).2.1 := all_plain s _ [] []

theorem flush_told (r : Rdr) : (plainText (r.flush.out.getD []), others (r.flush.out.getD [])) = r.told ∧ r.flush.data.getD [] = [] := by
  unfold Rdr.told Rdr.flush
  split
  · rename_i b l h
    rw [h]
    simp [plainText, others]
  · rename_i h
    have : r.data.getD [] = [] := by
      rcases hd : r.data with _ | _ | ⟨b, l⟩
      · rfl
      · rfl
      · exact absurd hd (h b l)
    rw [this]
    exact ⟨by simp, rfl⟩

theorem told_tell (r : Rdr) (t : Tok) (h : t.kind ≠ 0) : (r.tell t).told = (r.told.1, r.told.2 ++ [t]) := by
  obtain ⟨h1, h2⟩ := flush_told r
  unfold Rdr.tell
  simp only [Rdr.told, Option.getD_some, plain_snoc, others_app, h2]
  rw [if_neg h]
  have h3 := congrArg Prod.fst h1
  have h4 := congrArg Prod.snd h1
  simp only at h3 h4
  rw [h3, h4]
  simp [others, h, Rdr.told]

theorem told_of (r r' : Rdr) (h1 : r'.out = r.out) (h2 : r'.data = r.data) : r'.told = r.told := by simp [Rdr.told, h1, h2]

/-- the two readers have read the same -/
def Rel (r : Rdr) (R : Ref) : Prop := r.bin = R.bin ∧ r.after = R.cr ∧
  ((r.st = 0 ∧ R.inn = false ∧ R.cmd = none) ∨
   (r.after = false ∧ ((r.st = 1 ∧ R.inn = false ∧ R.cmd = some [255]) ∨
    (r.st = 2 ∧ R.inn = false ∧ ∃ x : UInt8, R.cmd = some [255, x] ∧ x ≠ 250 ∧ r.cmd = x.toNat) ∨
    (r.st = 3 ∧ R.inn = false ∧ R.cmd = some [255, 250]) ∨
    (r.st = 4 ∧ R.inn = true ∧ R.cmd = none ∧ R.iac = false ∧ r.opt = R.opt ∧ r.sub.getD [] = R.body.getD [] ∧ r.long = R.long) ∨
    (r.st = 5 ∧ R.inn = true ∧ R.cmd = none ∧ R.iac = true ∧ r.opt = R.opt ∧ r.sub.getD [] = R.body.getD [] ∧ r.long = R.long))))

theorem cls0 (b : UInt8) : cls b = 0 ↔ b = 255 := by
  unfold cls; repeat' split
  all_goals simp_all
theorem cls1 (b : UInt8) : cls b = 1 ↔ b = 240 := by
  unfold cls
  by_cases h : b = 255
  · subst h; decide
  by_cases h2 : b = 240
  · subst h2; decide
  simp only [h, h2, if_false]
  repeat' split
  all_goals simp
theorem cls2 (b : UInt8) : cls b = 2 ↔ b = 250 := by
  unfold cls
  by_cases h : b = 250
  · subst h; decide
  simp only [h, if_false]
  repeat' split
  all_goals simp
theorem cls3 (b : UInt8) : cls b = 3 ↔ (b = 251 ∨ b = 252 ∨ b = 253 ∨ b = 254) := by
  unfold cls
  by_cases h : b = 251 ∨ b = 252 ∨ b = 253 ∨ b = 254
  · rcases h with rfl | rfl | rfl | rfl <;> decide
  simp only [h, if_false]
  repeat' split
  all_goals simp

theorem ge250 (b : UInt8) : 250 ≤ b.toNat ↔ (b = 250 ∨ b = 251 ∨ b = 252 ∨ b = 253 ∨ b = 254 ∨ b = 255) := by
  have h := b.toNat_lt
  constructor
  · intro h1
    have : b.toNat = 250 ∨ b.toNat = 251 ∨ b.toNat = 252 ∨ b.toNat = 253 ∨ b.toNat = 254 ∨ b.toNat = 255 := by omega
    rcases this with h | h | h | h | h | h
    · exact .inl (UInt8.toNat_inj.1 h)
    · exact .inr (.inl (UInt8.toNat_inj.1 h))
    · exact .inr (.inr (.inl (UInt8.toNat_inj.1 h)))
    · exact .inr (.inr (.inr (.inl (UInt8.toNat_inj.1 h))))
    · exact .inr (.inr (.inr (.inr (.inl (UInt8.toNat_inj.1 h)))))
    · exact .inr (.inr (.inr (.inr (.inr (UInt8.toNat_inj.1 h)))))
  · rintro (rfl | rfl | rfl | rfl | rfl | rfl) <;> decide

/-- a byte behind IAC -/
theorem cmd_sim (r : Rdr) (R : Ref) (b : UInt8) (hb : r.bin = R.bin) (hc : r.after = false) (hcr : R.cr = false) (hin : R.inn = false) : Rel (r.cmdStep b) (R.command b).1 ∧ (r.cmdStep b).told = addEv r.told (R.command b).2 := by
  by_cases h : b = 255
  · subst h
    simp only [Rdr.cmdStep, (cls0 255).2 rfl, if_true, Ref.command]
    simp only [Rdr.byte, hc, Bool.false_and, Bool.false_eq_true, if_false]
    refine ⟨⟨hb, ?_, .inl ⟨rfl, hin, rfl⟩⟩, ?_⟩
    · simp [hcr]
    · simp [Rdr.told, addEv]
  · have h0 : cls b ≠ 0 := fun hc => h ((cls0 b).1 hc)
    simp only [Rdr.cmdStep, h0, if_false, Ref.command, if_neg h]
    by_cases h2 : b = 250
    · subst h2
      simp only [(cls2 250).2 rfl, if_true, (ge250 250).2 (.inl rfl)]
      exact ⟨⟨hb, by rw [hcr]; exact hc, .inr ⟨hc, .inr (.inr (.inl ⟨rfl, hin, rfl⟩))⟩⟩, told_of _ _ rfl rfl⟩
    · have h2' : cls b ≠ 2 := fun hc => h2 ((cls2 b).1 hc)
      simp only [h2', if_false]
      by_cases h3 : b = 251 ∨ b = 252 ∨ b = 253 ∨ b = 254
      · have hge : 250 ≤ b.toNat := (ge250 b).2 (by rcases h3 with h | h | h | h <;> simp [h])
        simp only [(cls3 b).2 h3, if_true, hge]
        exact ⟨⟨hb, by rw [hcr]; exact hc, .inr ⟨hc, .inr (.inl ⟨rfl, hin, b, rfl, h2, rfl⟩)⟩⟩, told_of _ _ rfl rfl⟩
      · have h3' : cls b ≠ 3 := fun hc => h3 ((cls3 b).1 hc)
        have hge : ¬250 ≤ b.toNat := fun hg => by
          rcases (ge250 b).1 hg with h' | h' | h' | h' | h' | h' <;> simp_all
        simp only [h3', if_false, hge]
        refine ⟨⟨?_, ?_, .inl ⟨?_, hin, rfl⟩⟩, ?_⟩
        · simp only [Rdr.tell, Rdr.flush]; split <;> exact hb
        · rw [hcr]; simp only [Rdr.tell, Rdr.flush]; split <;> exact hc
        · simp only [Rdr.tell, Rdr.flush]; split <;> rfl
        · rw [told_tell _ _ (by simp)]
          have : ({ r with st := 0 } : Rdr).told = r.told := told_of _ _ rfl rfl
          rw [this]; rfl

theorem tell_fields (r : Rdr) (t : Tok) : (r.tell t).bin = r.bin ∧ (r.tell t).after = r.after ∧ (r.tell t).st = r.st := by
  unfold Rdr.tell Rdr.flush
  split <;> exact ⟨rfl, rfl, rfl⟩

theorem step_sim (r : Rdr) (R : Ref) (b : UInt8) (h : Rel r R) : Rel (r.step b) (R.feed b).1 ∧ (r.step b).told = addEv r.told (R.feed b).2 := by
  obtain ⟨hbin, hcr, h⟩ := h
  rcases h with ⟨hst, hin, hcmd⟩ | ⟨haf, ⟨hst, hin, hcmd⟩ | ⟨hst, hin, x, hcmd, hx, hxc⟩ | ⟨hst, hin, hcmd⟩ | ⟨hst, hin, hcmd, hiac, hopt, hbody, hlong⟩ | ⟨hst, hin, hcmd, hiac, hopt, hbody, hlong⟩⟩
  · -- on the ground
    simp only [Rdr.step, hst, if_true, Ref.feed, hin, Bool.false_eq_true, if_false, hcmd]
    by_cases h : b = 255
    · subst h
      simp only [(cls0 255).2 rfl, if_true]
      exact ⟨⟨hbin, rfl, .inr ⟨rfl, .inl ⟨rfl, rfl, rfl⟩⟩⟩, told_of _ _ rfl rfl⟩
    · have h0 : cls b ≠ 0 := fun hc => h ((cls0 b).1 hc)
      simp only [h0, if_false, if_neg h]
      by_cases hd : R.cr = true ∧ b = 0 ∧ R.bin = false
      · have : (r.after && b == 0 && !r.bin) = true := by rw [hcr, hbin]; simp [hd.1, hd.2.1, hd.2.2]
        rw [if_pos hd]
        simp only [Rdr.byte, this, if_true]
        exact ⟨⟨hbin, rfl, .inl ⟨rfl, rfl, rfl⟩⟩, told_of _ _ rfl rfl⟩
      · have : ¬(r.after && b == 0 && !r.bin) = true := by
          rw [hcr, hbin]; intro hc; simp at hc; exact hd ⟨hc.1.1, hc.1.2, hc.2⟩
        rw [if_neg hd]
        simp only [Rdr.byte, this, if_false]
        refine ⟨⟨hbin, rfl, .inl ⟨rfl, rfl, rfl⟩⟩, ?_⟩
        simp [Rdr.told, addEv]
  · have : (r.step b) = r.cmdStep b := by simp [Rdr.step, hst]
    rw [this]
    have : R.feed b = R.command b := by simp [Ref.feed, hin, hcmd]
    rw [this]
    exact cmd_sim r R b hbin haf (by rw [← hcr]; exact haf) hin
  · have : (r.step b) = ({ r with st := 0 } : Rdr).tell ⟨2, r.cmd, b.toNat, []⟩ := by simp [Rdr.step, hst]
    rw [this]
    have : R.feed b = ({ R with cmd := none }, some ⟨2, x.toNat, b.toNat, []⟩) := by simp [Ref.feed, hin, hcmd, hx]
    rw [this]
    obtain ⟨g1, g2, g3⟩ := tell_fields { r with st := 0 } ⟨2, r.cmd, b.toNat, []⟩
    refine ⟨⟨by rw [g1]; exact hbin, by rw [g2]; exact hcr, .inl ⟨g3, hin, rfl⟩⟩, ?_⟩
    rw [told_tell _ _ (by simp), hxc]
    rfl
  · have : (r.step b) = r.inner 7 b := by simp [Rdr.step, hst]
    rw [this]
    have : R.feed b = ({ R with cmd := none, inn := true, opt := b.toNat, body := none, long := false, iac := false }, none) := by simp [Ref.feed, hin, hcmd]
    rw [this]
    exact ⟨⟨hbin, hcr, .inr ⟨haf, .inr (.inr (.inr (.inl ⟨rfl, rfl, rfl, rfl, rfl, rfl, rfl⟩)))⟩⟩, told_of _ _ rfl rfl⟩
  · have hf : R.feed b = R.sub b := by simp [Ref.feed, hin]
    rw [hf]
    by_cases h : b = 255
    · subst h
      have : (r.step 255) = r.inner 9 255 := by simp [Rdr.step, hst, (cls0 255).2 rfl]
      rw [this]
      have : R.sub 255 = ({ R with iac := true }, none) := by simp [Ref.sub, hiac]
      rw [this]
      exact ⟨⟨hbin, hcr, .inr ⟨haf, .inr (.inr (.inr (.inr ⟨rfl, hin, hcmd, rfl, hopt, hbody, hlong⟩)))⟩⟩, told_of _ _ rfl rfl⟩
    · have h0 : cls b ≠ 0 := fun hc => h ((cls0 b).1 hc)
      have : (r.step b) = r.keep b := by simp [Rdr.step, hst, h0, Rdr.inner]
      rw [this]
      unfold Rdr.keep
      by_cases h4 : (r.sub.getD []).length < 40
      · have h4' : ¬40 ≤ (R.body.getD []).length := by rw [← hbody]; omega
        rw [if_pos h4]
        have : R.sub b = ({ R with iac := false, body := some (R.body.getD [] ++ [b]) }, none) := by simp [Ref.sub, hiac, h, h4']
        rw [this]
        exact ⟨⟨hbin, hcr, .inr ⟨haf, .inr (.inr (.inr (.inl ⟨rfl, hin, hcmd, rfl, hopt, by simp [hbody], hlong⟩)))⟩⟩, told_of _ _ rfl rfl⟩
      · have h4' : 40 ≤ (R.body.getD []).length := by rw [← hbody]; omega
        rw [if_neg h4]
        have : R.sub b = ({ R with iac := false, long := true }, none) := by simp [Ref.sub, hiac, h, h4']
        rw [this]
        exact ⟨⟨hbin, hcr, .inr ⟨haf, .inr (.inr (.inr (.inl ⟨rfl, hin, hcmd, rfl, hopt, hbody, rfl⟩)))⟩⟩, told_of _ _ rfl rfl⟩
  · have hf : R.feed b = R.sub b := by simp [Ref.feed, hin]
    rw [hf]
    by_cases h : b = 255
    · subst h
      have : (r.step 255) = r.keep 255 := by simp [Rdr.step, hst, (cls0 255).2 rfl, Rdr.inner]
      rw [this]
      unfold Rdr.keep
      by_cases h4 : (r.sub.getD []).length < 40
      · have h4' : ¬40 ≤ (R.body.getD []).length := by rw [← hbody]; omega
        rw [if_pos h4]
        have : R.sub 255 = ({ R with iac := false, body := some (R.body.getD [] ++ [255]) }, none) := by simp [Ref.sub, hiac, h4']
        rw [this]
        exact ⟨⟨hbin, hcr, .inr ⟨haf, .inr (.inr (.inr (.inl ⟨rfl, hin, hcmd, rfl, hopt, by simp [hbody], hlong⟩)))⟩⟩, told_of _ _ rfl rfl⟩
      · have h4' : 40 ≤ (R.body.getD []).length := by rw [← hbody]; omega
        rw [if_neg h4]
        have : R.sub 255 = ({ R with iac := false, long := true }, none) := by simp [Ref.sub, hiac, h4']
        rw [this]
        exact ⟨⟨hbin, hcr, .inr ⟨haf, .inr (.inr (.inr (.inl ⟨rfl, hin, hcmd, rfl, hopt, hbody, rfl⟩)))⟩⟩, told_of _ _ rfl rfl⟩
    · have h0 : cls b ≠ 0 := fun hc => h ((cls0 b).1 hc)
      by_cases h1 : b = 240
      · subst h1
        have : (r.step 240) = r.endSub := by simp [Rdr.step, hst, h0, (cls1 240).2 rfl, Rdr.inner]
        rw [this]
        have : R.sub 240 = ({ R with inn := false, body := none, iac := false, long := false }, if R.long then none else some ⟨3, 0, R.opt, R.body.getD []⟩) := by simp [Ref.sub, hiac]
        rw [this]
        unfold Rdr.endSub
        by_cases hl : r.long = true
        · have hl' : R.long = true := by rw [← hlong]; exact hl
          rw [if_pos hl, if_pos hl']
          exact ⟨⟨hbin, hcr, .inl ⟨rfl, rfl, hcmd⟩⟩, told_of _ _ rfl rfl⟩
        · have hl' : ¬R.long = true := by rw [← hlong]; exact hl
          rw [if_neg hl, if_neg hl']
          obtain ⟨g1, g2, g3⟩ := tell_fields { r with st := 0 } ⟨3, 0, r.opt, r.sub.getD []⟩
          refine ⟨⟨g1.trans hbin, g2.trans hcr, .inl ⟨g3, rfl, hcmd⟩⟩, ?_⟩
          refine (told_of (({ r with st := 0 } : Rdr).tell ⟨3, 0, r.opt, r.sub.getD []⟩) _ rfl rfl).trans ?_
          rw [told_tell _ _ (by simp), hopt, hbody]
          rfl
      · have h1' : cls b ≠ 1 := fun hc => h1 ((cls1 b).1 hc)
        have : (r.step b) = ({ r with st := 1, sub := none } : Rdr).cmdStep b := by simp [Rdr.step, hst, h0, h1', Rdr.inner]
        rw [this]
        have : R.sub b = ({ R with inn := false, body := none, iac := false, long := false } : Ref).command b := by simp [Ref.sub, hiac, h, h1]
        rw [this]
        have := cmd_sim { r with st := 1, sub := none } { R with inn := false, body := none, iac := false, long := false } b hbin haf (by rw [← hcr]; exact haf) rfl
        exact this

theorem feed_sim (s : List UInt8) : ∀ (r : Rdr) (R : Ref), Rel r R → Rel (r.feed s) (evs R r.told s).1 ∧ (r.feed s).told = (evs R r.told s).2 := by
  induction s with
  | nil => intro r R h; exact ⟨h, rfl⟩
  | cons b s ih =>
    intro r R h
    obtain ⟨h1, h2⟩ := step_sim r R b h
    have := ih _ _ h1
    rw [h2] at this
    exact this

theorem rel_new (bin : Bool) : Rel (.new bin) (.new bin) := ⟨rfl, rfl, .inl ⟨rfl, rfl, rfl⟩⟩

/-- both tell the same bytes -/
theorem plain_same (bin : Bool) (s : List UInt8) : plainText (nvtToks bin s) = refPlain bin s := by
  obtain ⟨_, h2⟩ := feed_sim s _ _ (rel_new bin)
  have h3 := congrArg Prod.fst (flush_told ((Rdr.new bin).feed s)).1
  rw [refPlain_evs]
  show plainText (((Rdr.new bin).feed s).flush.out.getD []) = _
  rw [show plainText (((Rdr.new bin).feed s).flush.out.getD []) = ((Rdr.new bin).feed s).told.1 from h3, h2]
  rfl


theorem evs_len (s : List UInt8) : ∀ (R : Ref) (t : Told), (evs R t s).2.1.length ≤ t.1.length + s.length := by
  induction s with
  | nil => intro R t; exact Nat.le_refl _
  | cons c s ih =>
    intro R t
    rw [evs_cons]
    have h1 := ih (R.feed c).1 (addEv t (R.feed c).2)
    have h2 : (addEv t (R.feed c).2).1.length ≤ t.1.length + 1 := by
      cases hf : (R.feed c).2 with
      | none => simp [addEv]
      | some x =>
        unfold addEv
        simp only
        split
        · rename_i h0
          have := R.feed_text c x hf h0
          simp; omega
        · simp
    simp only [List.length_cons]; omega
theorem refPlain_len (bin : Bool) (s : List UInt8) : (refPlain bin s).length ≤ s.length := by
  rw [refPlain_evs]
  have := evs_len s (.new bin) ([], [])
  simpa using this

attribute [local irreducible] CallT Ent in
theorem wplain_ok (bin : Bool) (s : List UInt8) (hs : s.length ≤ 1000000) : T 9 [.bool bin, .str s] [] (fun v M' _ => v = .str (refPlain bin s) ∧ M' = []) := by
  have := plain_ok bin s hs (by rw [plain_same]; exact Nat.le_trans (refPlain_len bin s) hs)
  rwa [plain_same] at this

/-- nothing is half read, and no 0 would be dropped -/
def Ref.ground (R : Ref) (x : List UInt8) : Prop := R.inn = false ∧ R.cmd = none ∧ (R.bin = true ∨ R.cr = false ∨ x.head? = some 10)

theorem feed_iac (R : Ref) (h1 : R.inn = false) (h2 : R.cmd = none) : R.feed 255 = ({ R with cr := false, cmd := some [255] }, none) := by simp [Ref.feed, h1, h2]
theorem feed_cmd (R : Ref) (c : UInt8) (h1 : R.inn = false) (h2 : R.cmd = some [255]) : R.feed c = R.command c := by simp [Ref.feed, h1, h2]
theorem feed_put (R : Ref) (c : UInt8) (h1 : R.inn = false) (h2 : R.cmd = none) (hc : c ≠ 255) (hd : ¬(R.cr = true ∧ c = 0 ∧ R.bin = false)) : R.feed c = ({ R with cr := c == 13 }, some ⟨0, 0, 0, [c]⟩) := by
  simp only [Ref.feed, h1, h2, Bool.false_eq_true, if_false]
  rw [if_neg hc, if_neg hd]
theorem feed_drop (R : Ref) (h1 : R.inn = false) (h2 : R.cmd = none) (h3 : R.cr = true) (h4 : R.bin = false) : R.feed 0 = ({ R with cr := false }, none) := by
  simp [Ref.feed, h1, h2, h3, h4]

theorem bin_kept (R : Ref) (t : Told) (s : List UInt8) : (evs R t s).1.bin = R.bin := by
  have key : ∀ (R : Ref) c, (R.feed c).1.bin = R.bin := by
    intro R c
    have h1 : ∀ (R : Ref), (R.command c).1.bin = R.bin := by
      intro R
      unfold Ref.command
      repeat' split
      all_goals rfl
    unfold Ref.feed
    split
    · unfold Ref.sub
      repeat' split
      all_goals first | rfl | exact h1 _
    split
    · split <;> rfl
    · exact h1 R
    · repeat' split
      all_goals rfl
  induction s generalizing R t with
  | nil => rfl
  | cons c s ih => rw [evs_cons, ih, key]

/-- what is sent is read as it was -/
theorem sent_read (x : List UInt8) : ∀ (R : Ref) (t : Told), R.ground x → (evs R t (refData R.bin x)).1.ground [] ∧ (evs R t (refData R.bin x)).2 = (t.1 ++ x, t.2) := by
  induction x with
  | nil => intro R t h; exact ⟨h, by simp [refData, evs]⟩
  | cons b r ih =>
    intro R t ⟨h1, h2, h3⟩
    rw [refData]
    unfold sentAs
    by_cases hb : b = 255
    · subst hb
      rw [if_pos rfl, if_neg (fun hc => absurd hc.1 (by decide)), List.append_nil]
      simp only [List.singleton_append, List.cons_append, List.nil_append, evs_cons, feed_iac R h1 h2]
      rw [feed_cmd ({ R with cr := false, cmd := some [255] } : Ref) 255 h1 rfl]
      simp only [Ref.command, if_true, addEv]
      have := ih { R with cr := false, cmd := none } (t.1 ++ [255], t.2) ⟨h1, rfl, .inr (.inl rfl)⟩
      refine ⟨this.1, ?_⟩
      rw [this.2]; simp
    · rw [if_neg hb, List.append_nil]
      have hd : ¬(R.cr = true ∧ b = 0 ∧ R.bin = false) := by
        rintro ⟨g1, g2, g3⟩
        rcases h3 with h3 | h3 | h3
        · rw [g3] at h3; cases h3
        · rw [g1] at h3; cases h3
        · simp at h3; rw [h3] at g2; exact absurd g2 (by decide)
      simp only [List.singleton_append, List.cons_append, List.nil_append, evs_cons, feed_put R b h1 h2 hb hd]
      simp only [addEv, if_true]
      by_cases h13 : b = 13 ∧ R.bin = false ∧ r.head? ≠ some 10
      · rw [if_pos h13]
        simp only [List.singleton_append, List.cons_append, List.nil_append, evs_cons]
        rw [feed_drop ({ R with cr := b == 13 } : Ref) h1 h2 (by simp [h13.1]) h13.2.1]
        simp only [addEv]
        have := ih { R with cr := false } (t.1 ++ [b], t.2) ⟨h1, h2, .inr (.inl rfl)⟩
        refine ⟨this.1, ?_⟩
        rw [this.2]; simp
      · rw [if_neg h13, List.nil_append]
        have hg : ({ R with cr := b == 13 } : Ref).ground r := by
          refine ⟨h1, h2, ?_⟩
          cases hbin : R.bin
          · right
            by_cases hb13 : b = 13
            · right
              apply Classical.byContradiction
              intro hne
              exact h13 ⟨hb13, hbin, hne⟩
            · left; simpa using hb13
          · exact .inl rfl
        have := ih { R with cr := b == 13 } (t.1 ++ [b], t.2) hg
        refine ⟨this.1, ?_⟩
        rw [this.2]; simp

theorem ground_any {R : Ref} (h : R.ground []) (x : List UInt8) : R.ground x := by
  obtain ⟨h1, h2, h3⟩ := h
  refine ⟨h1, h2, ?_⟩
  rcases h3 with h3 | h3 | h3
  · exact .inl h3
  · exact .inr (.inl h3)
  · simp at h3
theorem ground_new (bin : Bool) (x : List UInt8) : (Ref.new bin).ground x := ⟨rfl, rfl, .inr (.inl rfl)⟩

/-- .. in parts -/
theorem parts_read (xs : List (List UInt8)) : ∀ (R : Ref) (t : Told), R.ground [] → (evs R t (xs.map (refData R.bin)).flatten).1.ground [] ∧ (evs R t (xs.map (refData R.bin)).flatten).2 = (t.1 ++ xs.flatten, t.2) := by
  induction xs with
  | nil => intro R t h; exact ⟨h, by simp [evs]⟩
  | cons x xs ih =>
    intro R t h
    obtain ⟨h1, h2⟩ := sent_read x R t (ground_any h x)
    simp only [List.map_cons, List.flatten_cons, evs_app]
    have hb := bin_kept R t (refData R.bin x)
    have := ih _ (evs R t (refData R.bin x)).2 h1
    rw [hb] at this
    refine ⟨this.1, ?_⟩
    rw [this.2, h2]; simp

theorem option_read (R : Ref) (t : Told) (o : UInt8) (h : R.ground []) : (evs R t [255, 253, o]).1.ground [] ∧ (evs R t [255, 253, o]).2 = (t.1, t.2 ++ [⟨2, 253, o.toNat, []⟩]) := by
  obtain ⟨h1, h2, h3⟩ := h
  simp only [evs_cons, feed_iac R h1 h2]
  rw [feed_cmd ({ R with cr := false, cmd := some [255] } : Ref) 253 h1 rfl]
  simp [Ref.command, Ref.feed, h1, addEv, evs, Ref.ground]

/-- within a subnegotiation -/
theorem sub_read (x : List UInt8) : ∀ (R : Ref) (t : Told), R.inn = true → R.iac = false → (R.body.getD []).length + x.length ≤ 40 →
    ∃ R', evs R t (refData true x) = (R', t) ∧ R'.inn = true ∧ R'.iac = false ∧ R'.cmd = R.cmd ∧ R'.opt = R.opt ∧ R'.long = R.long ∧ R'.cr = R.cr ∧ R'.body.getD [] = R.body.getD [] ++ x := by
  induction x with
  | nil => intro R t h1 h2 h3; exact ⟨R, rfl, h1, h2, rfl, rfl, rfl, rfl, by simp⟩
  | cons b r ih =>
    intro R t h1 h2 h3
    simp only [List.length_cons] at h3
    have hlt : ¬40 ≤ (R.body.getD []).length := by omega
    rw [refData]
    unfold sentAs
    have hno : ¬(b = 13 ∧ true = false ∧ r.head? ≠ some 10) := fun hc => absurd hc.2.1 (by decide)
    rw [if_neg hno, List.append_nil]
    clear hno
    by_cases hb : b = 255
    · subst hb
      rw [if_pos rfl]
      simp only [List.singleton_append, List.cons_append, List.nil_append, evs_cons]
      have e1 : R.feed 255 = ({ R with iac := true }, none) := by simp [Ref.feed, h1, Ref.sub, h2]
      rw [e1]
      have e2 : ({ R with iac := true } : Ref).feed 255 = ({ R with iac := false, body := some (R.body.getD [] ++ [255]) }, none) := by simp [Ref.feed, h1, Ref.sub, hlt]
      simp only [e2, addEv]
      obtain ⟨R', g1, g2, g3, g4, g5, g6, g7, g8⟩ := ih { R with iac := false, body := some (R.body.getD [] ++ [255]) } t h1 rfl (by simp; omega)
      exact ⟨R', g1, g2, g3, g4, g5, g6, g7, by rw [g8]; simp⟩
    · rw [if_neg hb, List.append_nil]
      simp only [List.singleton_append, List.cons_append, List.nil_append, evs_cons]
      have e2 : R.feed b = ({ R with iac := false, body := some (R.body.getD [] ++ [b]) }, none) := by simp [Ref.feed, h1, Ref.sub, hlt, h2, hb]
      simp only [e2, addEv]
      obtain ⟨R', g1, g2, g3, g4, g5, g6, g7, g8⟩ := ih { R with iac := false, body := some (R.body.getD [] ++ [b]) } t h1 rfl (by simp; omega)
      exact ⟨R', g1, g2, g3, g4, g5, g6, g7, by rw [g8]; simp⟩

theorem suball_read (R : Ref) (t : Told) (o : UInt8) (x : List UInt8) (hx : x.length ≤ 40) (h : R.ground []) :
    (evs R t ([255, 250, o] ++ refData true x ++ [255, 240])).1.ground [] ∧ (evs R t ([255, 250, o] ++ refData true x ++ [255, 240])).2 = (t.1, t.2 ++ [⟨3, 0, o.toNat, x⟩]) := by
  obtain ⟨h1, h2, h3⟩ := h
  simp only [List.cons_append, List.nil_append, evs_cons, feed_iac R h1 h2]
  rw [feed_cmd ({ R with cr := false, cmd := some [255] } : Ref) 250 h1 rfl]
  simp only [Ref.command, show ¬(250 : UInt8) = 255 by decide, show 250 ≤ (250 : UInt8).toNat by decide, if_true, if_false, addEv]
  have e : ({ R with cr := false, cmd := some [255, 250] } : Ref).feed o = ({ R with cr := false, cmd := none, inn := true, opt := o.toNat, body := none, long := false, iac := false }, none) := by simp [Ref.feed, h1]
  rw [e]
  simp only [addEv, evs_app]
  obtain ⟨R', g1, g2, g3, g4, g5, g6, g7, g8⟩ := sub_read x { R with cr := false, cmd := none, inn := true, opt := o.toNat, body := none, long := false, iac := false } t rfl rfl (by simpa using hx)
  rw [g1]
  simp only at g4 g5 g6 g7 g8
  have e1 : R'.feed 255 = ({ R' with iac := true }, none) := by simp [Ref.feed, g2, Ref.sub, g3]
  have e2 : ({ R' with iac := true } : Ref).feed 240 = ({ R' with inn := false, body := none, iac := false, long := false }, some ⟨3, 0, R'.opt, R'.body.getD []⟩) := by simp [Ref.feed, g2, Ref.sub, g6]
  simp only [evs_cons, e1, e2, addEv]
  simp [evs, Ref.ground, g4, g7, g5, g8]

theorem wireData_len (bin : Bool) (s : List UInt8) : s.length ≤ (wireData bin s).length ∧ (wireData bin s).length ≤ 2 * s.length := by
  rw [← refData_eq]
  induction s with
  | nil => simp [refData]
  | cons b r ih =>
    rw [refData]
    unfold sentAs
    by_cases hb : b = 255
    · have : ¬(b = 13 ∧ bin = false ∧ r.head? ≠ some 10) := fun hc => by rw [hb] at hc; exact absurd hc.1 (by decide)
      rw [if_pos hb, if_neg this]; simp; omega
    · rw [if_neg hb]
      split <;> simp <;> omega

/-- what is sent in parts is read as all together -/
theorem parts_plain (bin : Bool) (xs : List (List UInt8)) : refPlain bin (xs.map (wireData bin)).flatten = xs.flatten := by
  have e : xs.map (wireData bin) = xs.map (refData (Ref.new bin).bin) := List.map_congr_left fun x _ => (refData_eq bin x).symm
  rw [refPlain_evs, e, (parts_read xs (.new bin) ([], []) (ground_new bin [])).2]; simp
end Go.Am
end
section
set_option linter.unusedSimpArgs false
namespace Go.Am
open Go Go.Proofs

variable {O : Type} {unf : O → List (AO O)}
set_option maxRecDepth 100000
attribute [local irreducible] CallT Ent pushA

theorem room_ok (left n : Int) (hn : 0 ≤ n) (hl : left ≤ 1000000000) : CallT unf Tryd.prog 25 [.int .i64 left, .vs [.int .i64 n] 1] [] (fun v M' _ => v = .int .i64 (if left < 0 ∨ left < n then -1 else left - n) ∧ M' = []) := by
  refine CallT.by_body Tryd.func25 rfl Tryd.call25 rfl (.refl _ _ _) ?_
  ((conv => whnf); (repeat ((with_reducible refine Rest.mk ?_); (conv => whnf))))
  refine .inr ⟨2, ?_⟩
  ((conv => whnf); (repeat ((with_reducible refine Rest.mk ?_); (conv => whnf))))
  refine testK_split (fun h => ?_) (fun h => ?_) <;> ((conv => whnf); (repeat ((with_reducible refine Rest.mk ?_); (conv => whnf))))
  · have h : left < 0 := by simpa using h
    exact fin.flat (.int _ _) ⟨by rw [if_pos (.inl h)], rfl⟩
  refine testK_split (fun h2 => ?_) (fun h2 => ?_) <;> ((conv => whnf); (repeat ((with_reducible refine Rest.mk ?_); (conv => whnf))))
  · have h2 : left < n := by simpa using h2
    exact fin.flat (.int _ _) ⟨by rw [if_pos (.inr h2)], rfl⟩
  · simp at h h2
    rw [wrap_in (by omega) (by omega)]
    exact fin.flat (.int _ _) ⟨by rw [if_neg (by omega)], rfl⟩

theorem flatten_take_succ {xs : List (List UInt8)} {k : Nat} (hk : k < xs.length) : (xs.take (k + 1)).flatten = (xs.take k).flatten ++ xs[k] := by
  rw [List.take_succ_eq_append_getElem hk, List.flatten_append]; simp only [List.flatten_cons, List.flatten_nil, List.append_nil]
theorem flatten_take_le (xs : List (List UInt8)) (k : Nat) : (xs.take k).flatten.length ≤ xs.flatten.length := by
  conv => rhs; rw [← List.take_append_drop k xs, List.flatten_append]
  simp

/-- what room is left -/
def roomLeft (room n : Nat) : Int := if n ≤ room then (room : Int) - n else -1

theorem short_ok (few room : Nat) (xs : List (List UInt8)) (hf : few ≤ 1000000) (hr : room ≤ 1000000) : CallT unf Tryd.prog 10 [.int .i64 few, .int .i64 room, .vs (xs.map .str) xs.length] [] (fun v M' _ => v = .bool (decide (xs.length ≤ few ∧ xs.flatten.length ≤ room)) ∧ M' = []) := by
  refine CallT.by_body Tryd.func10 rfl Tryd.call10 rfl (.refl _ _ _) ?_
  ((conv => whnf); (repeat ((with_reducible refine Rest.mk ?_); (conv => whnf))))
  refine testK_split (fun h => ?_) (fun h => ?_) <;> ((conv => whnf); (repeat ((with_reducible refine Rest.mk ?_); (conv => whnf))))
  · have h : ¬xs.length ≤ few := by simp at h; omega
    exact fin.flat (v' := .bool (decide (xs.length ≤ few ∧ xs.flatten.length ≤ room))) (by simp [h]; exact .bool _) ⟨rfl, rfl⟩
  have h : xs.length ≤ few := by simp at h; omega
  refine .inl (loopG (α := Nat) (inv := fun k => k ≤ xs.length)
    (st := fun k => [.int .i64 few, .int .i64 (roomLeft room (xs.take k).flatten.length), .vs (xs.map .str) xs.length, .und, .und, .und, .bool false, .int .i64 (k : Nat), .und, .und, .und, .und, .und, .und, .und, .und, .und, .und, .und, .und, .und, .und, .und, .und, .und, .und, .und, .und, .und, .und, .und, .und])
    (mm := fun k => []) (μ := fun k => xs.length - k) 0 (Nat.zero_le _) ?_ ?_)
  · have : roomLeft room (xs.take 0).flatten.length = room := by simp [roomLeft]
    rw [this]
    exact .env (by (repeat' (first | exact LowL.nil _ | refine LowL.cons (.und _) ?_ | refine LowL.cons (.int _ _) ?_ | refine LowL.cons (.str _) ?_ | refine LowL.cons (.bool _) ?_ | refine LowL.cons (.ptr rfl) ?_ | refine LowL.cons (.sl rfl) ?_ | refine LowL.cons (low_vsS _ _) ?_ | refine LowL.cons (low_vsI _ _) ?_ | refine LowL.cons (low_tx rfl _) ?_ | refine LowL.cons .nilS ?_ | refine LowL.cons .nilP ?_ | refine LowL.cons (low_acc rfl _) ?_ | refine LowL.cons (low_toSl rfl _) ?_ | refine LowL.cons (low_bySl rfl _) ?_ | refine LowL.cons (low_toSlE rfl (by simp)) ?_)))
  intro k hk
  dsimp only
  have hfin : ∀ (M : Mem O), ((k = xs.length ∨ roomLeft room (xs.take k).flatten.length < 0)) → fin unf 0 [] (fun v M' _ => v = .bool (decide (xs.length ≤ few ∧ xs.flatten.length ≤ room)) ∧ M' = []) (.bool (decide (0 ≤ roomLeft room (xs.take k).flatten.length))) M := by
    intro M hc
    have e : (decide (0 ≤ roomLeft room (xs.take k).flatten.length)) = decide (xs.length ≤ few ∧ xs.flatten.length ≤ room) := by
      have hle := flatten_take_le xs k
      rw [decide_eq_decide]
      unfold roomLeft at *
      rcases hc with rfl | hc
      · rw [List.take_length] at *
        split <;> omega
      · split at hc <;> (split <;> omega)
    rw [e]
    exact fin.flat (.bool _) ⟨rfl, rfl⟩
  ((conv => whnf); (repeat ((with_reducible refine Rest.mk ?_); (conv => whnf))))
  refine testK_split (fun h1 => ?_) (fun h1 => ?_) <;> ((conv => whnf); (repeat ((with_reducible refine Rest.mk ?_); (conv => whnf))))
  · have hkn : k < xs.length := by simp at h1; omega
    refine testK_split (fun h2 => ?_) (fun h2 => ?_) <;> ((conv => whnf); (repeat ((with_reducible refine Rest.mk ?_); (conv => whnf))))
    · have h2 : 0 ≤ roomLeft room (xs.take k).flatten.length := by simpa using h2
      refine testK_true (by simp; omega) ?_
      ((conv => whnf); (repeat ((with_reducible refine Rest.mk ?_); (conv => whnf))))
      refine dropAt (v := .str xs[k]) (by simp [sz9, hkn]) ?_
      ((conv => whnf); (repeat ((with_reducible refine Rest.mk ?_); (conv => whnf))))
      refine ((room_ok (roomLeft room (xs.take k).flatten.length) xs[k].length (by omega) (by unfold roomLeft; split <;> omega)).lend (by rintro v rfl; exact .flat (.int _ _)) (.cons (.flat (.int _ _)) (.cons (.sl (z := 1) (l := [.int .i64 (xs[k].length : Int)]) rfl rfl (by intro v hv; simp at hv; subst hv; exact .int _ _) (by intro i hi; simp at hi; subst hi; rfl)) .nil))).mono ?_
      rintro v M' ch ⟨rfl, rfl, rfl⟩ _
      ((conv => whnf); (repeat ((with_reducible refine Rest.mk ?_); (conv => whnf))))
      have e : (if roomLeft room (xs.take k).flatten.length < 0 ∨ roomLeft room (xs.take k).flatten.length < xs[k].length then -1 else roomLeft room (xs.take k).flatten.length - xs[k].length) = roomLeft room (xs.take (k + 1)).flatten.length := by
        rw [flatten_take_succ hkn, List.length_append]
        unfold roomLeft at *
        repeat' split
        all_goals omega
      rw [e, wrap_succ (by omega)]
      exact ⟨k + 1, _, _, .low (τ := []) (Parts.low (by decide) .nil) (by (repeat' (first | exact LowL.nil _ | refine LowL.cons (.und _) ?_ | refine LowL.cons (.int _ _) ?_ | refine LowL.cons (.str _) ?_ | refine LowL.cons (.bool _) ?_ | refine LowL.cons (.ptr rfl) ?_ | refine LowL.cons (.sl rfl) ?_ | refine LowL.cons (low_vsS _ _) ?_ | refine LowL.cons (low_vsI _ _) ?_ | refine LowL.cons (low_tx rfl _) ?_ | refine LowL.cons .nilS ?_ | refine LowL.cons .nilP ?_ | refine LowL.cons (low_acc rfl _) ?_ | refine LowL.cons (low_toSl rfl _) ?_ | refine LowL.cons (low_bySl rfl _) ?_ | refine LowL.cons (low_toSlE rfl (by simp)) ?_))) (Nat.zero_le _) (fun i hi => by simp at hi), ⟨hkn, rfl, rfl⟩, by omega⟩
    · exact hfin _ (.inr (by simpa using h2))
  · exact hfin _ (.inl (by simp at h1; omega))

theorem bjoin_ok (xs : List (List UInt8)) (hn : xs.length ≤ 1000000) (hl : xs.flatten.length ≤ 1000000) : CallT unf Tryd.prog 12 [.vs (xs.map .str) xs.length] [] (fun v M' _ => v = .str xs.flatten ∧ M' = []) := by
  refine CallT.by_body Tryd.func12 rfl Tryd.call12 rfl (.refl _ _ _) ?_
  ((conv => whnf); (repeat ((with_reducible refine Rest.mk ?_); (conv => whnf))))
  refine .inl (loopG (α := Nat) (inv := fun k => k ≤ xs.length)
    (st := fun k => [.vs (xs.map .str) xs.length, .und, .str [], .str (xs.take k).flatten, .int .i64 (k : Nat), .und, .und, .und, .und, .und, .und, .und, .und, .und, .und, .und, .und, .und])
    (mm := fun k => []) (μ := fun k => xs.length - k) 0 (Nat.zero_le _) ?_ ?_)
  · exact .env (by (repeat' (first | exact LowL.nil _ | refine LowL.cons (.und _) ?_ | refine LowL.cons (.int _ _) ?_ | refine LowL.cons (.str _) ?_ | refine LowL.cons (.bool _) ?_ | refine LowL.cons (.ptr rfl) ?_ | refine LowL.cons (.sl rfl) ?_ | refine LowL.cons (low_vsS _ _) ?_ | refine LowL.cons (low_vsI _ _) ?_ | refine LowL.cons (low_tx rfl _) ?_ | refine LowL.cons .nilS ?_ | refine LowL.cons .nilP ?_ | refine LowL.cons (low_acc rfl _) ?_ | refine LowL.cons (low_toSl rfl _) ?_ | refine LowL.cons (low_bySl rfl _) ?_ | refine LowL.cons (low_toSlE rfl (by simp)) ?_)))
  intro k hk
  dsimp only
  ((conv => whnf); (repeat ((with_reducible refine Rest.mk ?_); (conv => whnf))))
  refine testK_split (fun h1 => ?_) (fun h1 => ?_) <;> ((conv => whnf); (repeat ((with_reducible refine Rest.mk ?_); (conv => whnf))))
  · have hkn : k < xs.length := by simp at h1; omega
    have hle := flatten_take_le xs (k + 1)
    rw [flatten_take_succ hkn, List.length_append] at hle
    refine testK_true (by simp; omega) ?_
    ((conv => whnf); (repeat ((with_reducible refine Rest.mk ?_); (conv => whnf))))
    refine dropAt (v := .str xs[k]) (by simp [sz9, hkn]) ?_
    ((conv => whnf); (repeat ((with_reducible refine Rest.mk ?_); (conv => whnf))))
    refine testK_true (by simp only [decide_eq_true_eq]; omega) ?_
    ((conv => whnf); (repeat ((with_reducible refine Rest.mk ?_); (conv => whnf))))
    rw [wrap_succ (by omega), ← flatten_take_succ hkn]
    exact ⟨k + 1, _, _, .env (by (repeat' (first | exact LowL.nil _ | refine LowL.cons (.und _) ?_ | refine LowL.cons (.int _ _) ?_ | refine LowL.cons (.str _) ?_ | refine LowL.cons (.bool _) ?_ | refine LowL.cons (.ptr rfl) ?_ | refine LowL.cons (.sl rfl) ?_ | refine LowL.cons (low_vsS _ _) ?_ | refine LowL.cons (low_vsI _ _) ?_ | refine LowL.cons (low_tx rfl _) ?_ | refine LowL.cons .nilS ?_ | refine LowL.cons .nilP ?_ | refine LowL.cons (low_acc rfl _) ?_ | refine LowL.cons (low_toSl rfl _) ?_ | refine LowL.cons (low_bySl rfl _) ?_ | refine LowL.cons (low_toSlE rfl (by simp)) ?_))), ⟨hkn, rfl, rfl⟩, by omega⟩
  · have : k = xs.length := by simp at h1; omega
    subst this
    rw [List.take_length]
    exact fin.flat (.str _) ⟨rfl, rfl⟩

theorem same_ok (xs ys : List (List UInt8)) (hn : xs.length ≤ 1000000) : CallT unf Tryd.prog 27 [.vs (xs.map .str) xs.length, .vs (ys.map .str) ys.length] [] (fun v M' _ => v = .bool (decide (xs = ys)) ∧ M' = []) := by
  refine CallT.by_body Tryd.func27 rfl Tryd.call27 rfl (.refl _ _ _) ?_
  have fls : ∀ (b : Bool) (M : Mem O), b = decide (xs = ys) → fin unf 0 [] (fun v M' _ => v = .bool (decide (xs = ys)) ∧ M' = []) (.bool b) M := fun b M h => by
    subst h; exact fin.flat (.bool _) ⟨rfl, rfl⟩
  ((conv => whnf); (repeat ((with_reducible refine Rest.mk ?_); (conv => whnf))))
  refine testK_split (fun h => ?_) (fun h => ?_) <;> ((conv => whnf); (repeat ((with_reducible refine Rest.mk ?_); (conv => whnf))))
  · have h : xs.length ≠ ys.length := by simp at h; omega
    exact fls false _ (by symm; rw [decide_eq_false_iff_not]; intro he; exact h (by rw [he]))
  have h : xs.length = ys.length := by simp at h; omega
  refine .inl (loopG (α := Nat) (inv := fun k => k ≤ xs.length ∧ xs.take k = ys.take k)
    (st := fun k => [.vs (xs.map .str) xs.length, .vs (ys.map .str) ys.length, .und, .und, .bool false, .int .i64 (k : Nat), .und, .und, .und, .und, .und, .und, .und, .und, .und, .und, .und, .und, .und, .und, .und, .und, .und, .und, .und, .und, .und])
    (mm := fun k => []) (μ := fun k => xs.length - k) 0 (by simp) ?_ ?_)
  · exact .env (by (repeat' (first | exact LowL.nil _ | refine LowL.cons (.und _) ?_ | refine LowL.cons (.int _ _) ?_ | refine LowL.cons (.str _) ?_ | refine LowL.cons (.bool _) ?_ | refine LowL.cons (.ptr rfl) ?_ | refine LowL.cons (.sl rfl) ?_ | refine LowL.cons (low_vsS _ _) ?_ | refine LowL.cons (low_vsI _ _) ?_ | refine LowL.cons (low_tx rfl _) ?_ | refine LowL.cons .nilS ?_ | refine LowL.cons .nilP ?_ | refine LowL.cons (low_acc rfl _) ?_ | refine LowL.cons (low_toSl rfl _) ?_ | refine LowL.cons (low_bySl rfl _) ?_ | refine LowL.cons (low_toSlE rfl (by simp)) ?_)))
  rintro k ⟨hk, he⟩
  dsimp only
  ((conv => whnf); (repeat ((with_reducible refine Rest.mk ?_); (conv => whnf))))
  refine testK_split (fun h1 => ?_) (fun h1 => ?_) <;> ((conv => whnf); (repeat ((with_reducible refine Rest.mk ?_); (conv => whnf))))
  · have hkn : k < xs.length := by simp at h1; omega
    have hkm : k < ys.length := by omega
    refine testK_true (b := drawOk _ _ _) (by kernel_rfl) ?_
    ((conv => whnf); (repeat ((with_reducible refine Rest.mk ?_); (conv => whnf))))
    refine testK_true (by simp; omega) ?_
    ((conv => whnf); (repeat ((with_reducible refine Rest.mk ?_); (conv => whnf))))
    refine dropAt (v := .str xs[k]) (by simp [sz9, hkn]) ?_
    ((conv => whnf); (repeat ((with_reducible refine Rest.mk ?_); (conv => whnf))))
    refine testK_true (by simp; omega) ?_
    ((conv => whnf); (repeat ((with_reducible refine Rest.mk ?_); (conv => whnf))))
    refine dropAt (v := .str ys[k]) (by simp [sz9, hkm]) ?_
    ((conv => whnf); (repeat ((with_reducible refine Rest.mk ?_); (conv => whnf))))
    refine testK_split (fun h2 => ?_) (fun h2 => ?_) <;> ((conv => whnf); (repeat ((with_reducible refine Rest.mk ?_); (conv => whnf))))
    · have h2 : xs[k] ≠ ys[k] := by simpa using h2
      exact fls false _ (by symm; rw [decide_eq_false_iff_not]; intro he; apply h2; subst he; rfl)
    · have h2 : xs[k] = ys[k] := by simpa using h2
      rw [wrap_succ (by omega)]
      exact ⟨k + 1, _, _, .env (by (repeat' (first | exact LowL.nil _ | refine LowL.cons (.und _) ?_ | refine LowL.cons (.int _ _) ?_ | refine LowL.cons (.str _) ?_ | refine LowL.cons (.bool _) ?_ | refine LowL.cons (.ptr rfl) ?_ | refine LowL.cons (.sl rfl) ?_ | refine LowL.cons (low_vsS _ _) ?_ | refine LowL.cons (low_vsI _ _) ?_ | refine LowL.cons (low_tx rfl _) ?_ | refine LowL.cons .nilS ?_ | refine LowL.cons .nilP ?_ | refine LowL.cons (low_acc rfl _) ?_ | refine LowL.cons (low_toSl rfl _) ?_ | refine LowL.cons (low_bySl rfl _) ?_ | refine LowL.cons (low_toSlE rfl (by simp)) ?_))), ⟨⟨hkn, by rw [List.take_succ_eq_append_getElem hkn, List.take_succ_eq_append_getElem hkm, he, h2]⟩, rfl, rfl⟩, by omega⟩
  · have : k = xs.length := by simp at h1; omega
    subst this
    rw [List.take_length, List.take_of_length_le (by omega)] at he
    exact fls true _ (by simp [he])

/-- texts in a row of its own -/
theorem flat_texts (xs : List (List UInt8)) : ∀ v, v ∈ xs.map AV.str → Flat v := by
  intro v hv; simp at hv; obtain ⟨a, _, rfl⟩ := hv; exact .str _

set_option maxRecDepth 100000 in
theorem zero_str (R : Prop) (h : R) (hlt : 9 < Tryd.prog.types.size) : zeroK Tryd.prog (fun l => payK (decide (l.length = (Tryd.prog.types[9]'hlt).size)) R) 9 := by
  rw [sz9]
  exact h

def txSl (i : Nat) (l : List (List UInt8)) : AV := match l with
  | [] => .nilS
  | l => .sl i 0 l.length l.length
def txRow (l : List (List UInt8)) : AO O := match l with
  | [] => .dead
  | l => .cells (some 1) (l.map .str)
theorem txSl_snoc (i : Nat) (l : List (List UInt8)) (t : List UInt8) : txSl i (l ++ [t]) = .sl i 0 (l.length + 1) (l.length + 1) := by cases l <;> simp [txSl]
theorem txRow_snoc (l : List (List UInt8)) (t : List UInt8) : (txRow (l ++ [t]) : AO O) = .cells (some 1) ((l ++ [t]).map .str) := by cases l <;> rfl
theorem low_tx {τ : List Nat} {i j : Nat} (h : τ[i]? = some j) (s : List (List UInt8)) : Low τ (txSl i s) (txSl j s) := by
  cases s
  · exact .nilS
  · exact .sl h
theorem part_tx {τ ts : List Nat} {M : Mem O} {os : Mem O} {t : Nat} {s : List (List UInt8)} (h : M[t]? = some (txRow s)) (hp : Parts τ M ts os) : Parts τ M (t :: ts) (txRow s :: os) := by
  cases s with
  | nil => exact .dead hp
  | cons a s => exact .some h (.cells (.flat (flat_texts _))) hp

theorem push_tx {el : TypeId} {inf : TypeInfo} {id : Nat} {l : List (List UInt8)} {t : List UInt8} {new : List AV} {M : Mem O} {K : AV → Mem O → Prop} (hsz : inf.size = 1) (hby : inf.bytes = 16) (hz : ∀ R : Prop, R → zeroK Tryd.prog (fun l => payK (decide (l.length = inf.size)) R) el)
    (hM : M[id]? = some (txRow l)) (hnew : new = [.str t]) (hroom : l.length ≤ 1000000000)
    (hk : K (txSl M.length (l ++ [t])) (M.set id .dead ++ [txRow (l ++ [t])])) : pushA Tryd.prog el inf 1 new (txSl id l) M K := by
  subst hnew
  rw [txSl_snoc, txRow_snoc] at hk
  cases l with
  | nil =>
    refine push_none hsz (by omega) hz (by omega) (by rw [hby]; omega) ?_
    have : M.set id .dead = M := by
      obtain ⟨h1, h2⟩ := List.getElem?_eq_some_iff.1 hM
      rw [← show M[id] = AO.dead from h2]; exact List.set_getElem_self h1
    rw [this] at hk
    exact hk
  | cons x l =>
    refine push_some hsz (by omega) hz hM (by simp) (by omega) (by rw [hby]; omega) ?_
    simpa using hk

def markB : List UInt8 := [109, 97, 114, 107]

theorem copy_ok (xs : List (List UInt8)) (hn : xs.length ≤ 1000000) : CallT unf Tryd.prog 26 [.vs (xs.map .str) xs.length] [] (fun v M' _ => v = txSl 0 xs ∧ M' = [txRow xs]) := by
  refine CallT.by_body Tryd.func26 rfl Tryd.call26 rfl (.refl _ _ _) ?_
  ((conv => whnf); (repeat ((with_reducible refine Rest.mk ?_); (conv => whnf))))
  refine testK_true (by simp [sz9]) ?_
  cases xs with
  | nil =>
    unfold pushA
    ((conv => whnf); (repeat ((with_reducible refine Rest.mk ?_); (conv => whnf))))
    exact fin.mk _ _ [] (.low (τ := [0]) (Parts.low (by decide) (.dead .nil)) (.cons .nilS (.nil _)) (Nat.zero_le _) (fun i hi => by simp at hi)) ⟨rfl, rfl⟩ ⟨Nat.zero_le _, fun i hi => by simp at hi⟩
  | cons x l =>
    refine push_none (sz9 _) (by rw [by9]; omega) (fun R h => zero_str R h _) (by simp) (by rw [by9]; simp at hn ⊢; omega) ?_
    ((conv => whnf); (repeat ((with_reducible refine Rest.mk ?_); (conv => whnf))))
    exact fin.mk _ _ [] (.refl _ _ _) ⟨rfl, rfl⟩ ⟨Nat.zero_le _, fun i hi => by simp at hi⟩

theorem lent_ok (xs : List (List UInt8)) (hn : xs.length ≤ 1000000) : CallT unf Tryd.prog 11 [.vs (xs.map .str) xs.length] [] (fun v M' _ => v = .sl 0 0 xs.length (xs.length + 1) ∧ M' = [.cells (some 1) ((xs ++ [markB]).map .str)]) := by
  refine CallT.by_body Tryd.func11 rfl Tryd.call11 rfl (.refl _ _ _) ?_
  ((conv => whnf); (repeat ((with_reducible refine Rest.mk ?_); (conv => whnf))))
  refine (copy_ok xs hn).mono ?_
  rintro v M' ch ⟨rfl, rfl⟩ _
  ((conv => whnf); (repeat ((with_reducible refine Rest.mk ?_); (conv => whnf))))
  refine push_tx (id := 0) (t := markB) (sz9 _) (by9 _) (fun R h => zero_str R h _) rfl (by simp [sz9, sub]; rfl) (by omega) ?_
  rw [txSl_snoc, txRow_snoc]
  ((conv => whnf); (repeat ((with_reducible refine Rest.mk ?_); (conv => whnf))))
  refine testK_true (by simp; omega) ?_
  ((conv => whnf); (repeat ((with_reducible refine Rest.mk ?_); (conv => whnf))))
  repeat' (first | (refine testK_true (by first | decide | (simp [sz9]; done)) ?_; ((conv => whnf); (repeat ((with_reducible refine Rest.mk ?_); (conv => whnf))))) | (refine testK_false (by simp) ?_; ((conv => whnf); (repeat ((with_reducible refine Rest.mk ?_); (conv => whnf))))))
  refine fin.mk _ _ [] (.low (τ := [2]) (Parts.low (by decide) (.some rfl (.cells (.flat (flat_texts _))) .nil)) (.cons (.sl rfl) (.nil _)) (Nat.zero_le _) (fun i hi => by simp at hi)) ⟨rfl, rfl⟩ ⟨Nat.zero_le _, fun i hi => by simp at hi⟩

theorem stays_ok (xs : List (List UInt8)) (hn : xs.length ≤ 1000000) : CallT unf Tryd.prog 18 [.sl 0 0 xs.length (xs.length + 1), .vs (xs.map .str) xs.length] [.cells (some 1) ((xs ++ [markB]).map .str)] (fun v M' _ => v = .bool true ∧ M' = [.cells (some 1) ((xs ++ [markB]).map .str)]) := by
  refine CallT.by_body Tryd.func18 rfl Tryd.call18 rfl (.refl _ _ _) ?_
  ((conv => whnf); (repeat ((with_reducible refine Rest.mk ?_); (conv => whnf))))
  refine ((same_ok xs xs hn).lend (by rintro v rfl; exact .flat (.bool _)) (.cons (.sl (z := 1) (l := xs.map .str) rfl (by simp) (flat_texts _) (fun i hi => ?_)) (.cons (.vs (flat_texts _)) .nil))).mono ?_
  · simp at hi
    simp [List.getElem?_append_left, hi]
  rintro v M' ch ⟨rfl, rfl, rfl⟩ _
  rw [decide_eq_true rfl]
  ((conv => whnf); (repeat ((with_reducible refine Rest.mk ?_); (conv => whnf))))
  rw [wrap_succ (by omega)]
  refine testK_true (by simp; omega) ?_
  ((conv => whnf); (repeat ((with_reducible refine Rest.mk ?_); (conv => whnf))))
  repeat' (first | (refine testK_true (by first | decide | (simp [sz9]; done) | (simp; omega)) ?_; ((conv => whnf); (repeat ((with_reducible refine Rest.mk ?_); (conv => whnf))))) | (refine testK_false (by simp) ?_; ((conv => whnf); (repeat ((with_reducible refine Rest.mk ?_); (conv => whnf))))))
  ((conv => whnf); (repeat ((with_reducible refine Rest.mk ?_); (conv => whnf))))
  refine dropHead (v := .str markB) ?_ ?_
  · simp [sz9, List.getElem?_append_right]
  ((conv => whnf); (repeat ((with_reducible refine Rest.mk ?_); (conv => whnf))))
  exact fin.mk _ _ [] (.refl _ _ _) ⟨rfl, rfl⟩ (.refl _ _)

theorem cuts_ok (s : List UInt8) (ats : List Int) (hs : s.length ≤ 1000000) (hn : ats.length ≤ 1000000) (hr : ∀ a, a ∈ ats → -9223372036854775808 ≤ a ∧ a ≤ 9223372036854775807) : CallT unf Tryd.prog 19 [.str s, .vs (ats.map (.int .i64)) ats.length] [] (fun v M' _ => ∃ parts : List (List UInt8), parts ≠ [] ∧ parts.flatten = s ∧ parts.length ≤ ats.length + 1 ∧ v = txSl 0 parts ∧ M' = [txRow parts]) := by
  refine CallT.by_body Tryd.func19 rfl Tryd.call19 rfl (.refl _ _ _) ?_
  ((conv => whnf); (repeat ((with_reducible refine Rest.mk ?_); (conv => whnf))))
  refine .inl (loopG (α := Nat × List (List UInt8) × List UInt8) (inv := fun a => a.1 ≤ ats.length ∧ a.2.1.flatten ++ a.2.2 = s ∧ a.2.1.length = a.1)
    (st := fun a => [.str a.2.2, .vs (ats.map (.int .i64)) ats.length, .und, .und, .nilS, txSl 0 a.2.1, .int .i64 (a.1 : Nat), .und, .und, .und, .und, .und, .und, .und, .und, .und, .und, .und, .und, .und, .und, .und, .und, .und, .und, .und, .und, .und, .und, .und, .und, .und, .und, .und, .und, .und, .und, .und, .und, .und, .und, .und, .und, .und, .und, .und, .und, .und])
    (mm := fun a => [txRow a.2.1]) (μ := fun a => ats.length - a.1) (0, [], s) (by simp) ?_ ?_)
  · exact .low (τ := [0]) (Parts.low (by decide) (.dead .nil)) (by (repeat' (first | exact LowL.nil _ | refine LowL.cons (.und _) ?_ | refine LowL.cons (.int _ _) ?_ | refine LowL.cons (.str _) ?_ | refine LowL.cons (.bool _) ?_ | refine LowL.cons (.ptr rfl) ?_ | refine LowL.cons (.sl rfl) ?_ | refine LowL.cons (low_vsS _ _) ?_ | refine LowL.cons (low_vsI _ _) ?_ | refine LowL.cons (low_tx rfl _) ?_ | refine LowL.cons .nilS ?_ | refine LowL.cons .nilP ?_ | refine LowL.cons (low_acc rfl _) ?_ | refine LowL.cons (low_toSl rfl _) ?_ | refine LowL.cons (low_bySl rfl _) ?_ | refine LowL.cons (low_toSlE rfl (by simp)) ?_))) (Nat.zero_le _) (fun i hi => by simp at hi)
  rintro ⟨k, ps, r⟩ ⟨hk, hf, hl⟩
  dsimp only at hk hf hl ⊢
  have hrl : r.length ≤ s.length := by rw [← hf]; simp
  ((conv => whnf); (repeat ((with_reducible refine Rest.mk ?_); (conv => whnf))))
  have hend : ∀ (b1 b2 b3 : AV), fin unf 0 [] (fun v M' _ => ∃ parts : List (List UInt8), parts ≠ [] ∧ parts.flatten = s ∧ parts.length ≤ ats.length + 1 ∧ v = txSl 0 parts ∧ M' = [txRow parts]) (txSl 2 (ps ++ [r])) [.dead, .cells none [b1], txRow (ps ++ [r])] := fun b1 b2 b3 =>
    .mk _ _ [] (.low (τ := [2]) (Parts.low (by decide) (part_tx rfl .nil)) (.cons (low_tx rfl _) (.nil _)) (Nat.zero_le _) (fun i hi => by simp at hi)) ⟨ps ++ [r], by simp, by simpa using hf, by simp; omega, rfl, rfl⟩ ⟨Nat.zero_le _, fun i hi => by simp at hi⟩
  refine testK_split (fun h1 => ?_) (fun h1 => ?_) <;> ((conv => whnf); (repeat ((with_reducible refine Rest.mk ?_); (conv => whnf))))
  · have hkn : k < ats.length := by simp at h1; omega
    refine testK_split (fun h2 => ?_) (fun h2 => ?_) <;> ((conv => whnf); (repeat ((with_reducible refine Rest.mk ?_); (conv => whnf))))
    · have h2 : 0 < r.length := by simpa using h2
      refine testK_true (by simp; omega) ?_
      ((conv => whnf); (repeat ((with_reducible refine Rest.mk ?_); (conv => whnf))))
      have ha := hr _ (List.getElem_mem hkn)
      refine dropAt (v := .int .i64 ats[k]) (by simp [sz3, hkn]) ?_
      generalize ats[k] = a at ha ⊢
      ((conv => whnf); (repeat ((with_reducible refine Rest.mk ?_); (conv => whnf))))
      have w1 : IntKind.i64.wrap ((r.length : Int) + 1) = (r.length : Int) + 1 := wrap_in (by omega) (by omega)
      rw [w1]
      refine testK_true (by simp; omega) ?_
      ((conv => whnf); (repeat ((with_reducible refine Rest.mk ?_); (conv => whnf))))
      have b1 := Int.tmod_lt_of_pos a (show (0 : Int) < (r.length : Int) + 1 by omega)
      have b2 := Int.lt_tmod_of_pos a (show (0 : Int) < (r.length : Int) + 1 by omega)
      have w2 : IntKind.i64.wrap (a.tmod ((r.length : Int) + 1) + (r.length : Int)) = a.tmod ((r.length : Int) + 1) + r.length := wrap_in (by omega) (by omega)
      have w3 : IntKind.i64.wrap (a.tmod ((r.length : Int) + 1) + (r.length : Int) + 1) = a.tmod ((r.length : Int) + 1) + r.length + 1 := wrap_in (by omega) (by omega)
      rw [w2, w3, w1]
      have b3 := Int.tmod_lt_of_pos (a.tmod ((r.length : Int) + 1) + r.length + 1) (show (0 : Int) < (r.length : Int) + 1 by omega)
      have b4 := Int.tmod_nonneg (r.length + 1 : Int) (show (0 : Int) ≤ a.tmod ((r.length : Int) + 1) + r.length + 1 by omega)
      generalize (a.tmod ((r.length : Int) + 1) + r.length + 1).tmod ((r.length : Int) + 1) = q at b3 b4 ⊢
      refine testK_true (by simp; omega) ?_
      ((conv => whnf); (repeat ((with_reducible refine Rest.mk ?_); (conv => whnf))))
      refine push_tx (id := 0) (t := r.take q.toNat) (sz9 _) (by9 _) (fun R h => zero_str R h _) rfl (by simp [sz9, sub]) (by omega) ?_
      ((conv => whnf); (repeat ((with_reducible refine Rest.mk ?_); (conv => whnf))))
      refine testK_true (by simp; omega) ?_
      ((conv => whnf); (repeat ((with_reducible refine Rest.mk ?_); (conv => whnf))))
      rw [wrap_succ (by omega)]
      have e1 : (r.take r.length).drop q.toNat = r.drop q.toNat := by rw [List.take_length]
      rw [e1]
      exact ⟨(k + 1, ps ++ [r.take q.toNat], r.drop q.toNat), _, _, .low (τ := [2]) (Parts.low (by decide) (part_tx rfl .nil)) (by (repeat' (first | exact LowL.nil _ | refine LowL.cons (.und _) ?_ | refine LowL.cons (.int _ _) ?_ | refine LowL.cons (.str _) ?_ | refine LowL.cons (.bool _) ?_ | refine LowL.cons (.ptr rfl) ?_ | refine LowL.cons (.sl rfl) ?_ | refine LowL.cons (low_vsS _ _) ?_ | refine LowL.cons (low_vsI _ _) ?_ | refine LowL.cons (low_tx rfl _) ?_ | refine LowL.cons .nilS ?_ | refine LowL.cons .nilP ?_ | refine LowL.cons (low_acc rfl _) ?_ | refine LowL.cons (low_toSl rfl _) ?_ | refine LowL.cons (low_bySl rfl _) ?_ | refine LowL.cons (low_toSlE rfl (by simp)) ?_))) (Nat.zero_le _) (fun i hi => by simp at hi), ⟨⟨hkn, by simpa using hf, by simp; omega⟩, rfl, rfl⟩, by simp; omega⟩
    · refine push_tx (id := 0) (t := r) (sz9 _) (by9 _) (fun R h => zero_str R h _) rfl (by simp [sz9, sub]) (by omega) ?_
      ((conv => whnf); (repeat ((with_reducible refine Rest.mk ?_); (conv => whnf))))
      exact hend _ .und .und
  · refine push_tx (id := 0) (t := r) (sz9 _) (by9 _) (fun R h => zero_str R h _) rfl (by simp [sz9, sub]) (by omega) ?_
    ((conv => whnf); (repeat ((with_reducible refine Rest.mk ?_); (conv => whnf))))
    exact hend _ .und .und
end Go.Am
end
section
set_option linter.unusedSimpArgs false
namespace Go.Am
open Go Go.Proofs

set_option maxRecDepth 100000
attribute [local irreducible] CallT Ent pushA

theorem flat_lit (xs : List (List UInt8)) (M : Mem Ob) (id : Nat) (h : M[id]? = some (.cells none (xs.map .str))) : Lend M (.vs (xs.map .str) xs.length) (.sl id 0 xs.length xs.length) := by
  refine .sl (z := 1) h (by simp) ?_ (fun i hi => ?_)
  · intro v hv; simp at hv; obtain ⟨a, _, rfl⟩ := hv; exact .str _
  · simp at hi; simp [hi]

/-- wire.Data of a literal -/
theorem data_lit (bin : Bool) (xs : List (List UInt8)) (M : Mem Ob) (id : Nat) (hx : xs.length ≤ 1000000) (hl : xs.flatten.length ≤ 1000000) (h : M[id]? = some (.cells none (xs.map .str))) :
    T 7 [.bool bin, .sl id 0 xs.length xs.length] M (fun v M' ch => v = .str (wireData bin xs.flatten) ∧ M' = M ∧ ch = []) :=
  ((data0_ok bin xs hx hl).mono fun v M' ch h _ => ⟨h.1, h.2.1⟩).lend (by rintro v rfl; exact .flat (.str _)) (.cons (.flat (.bool _)) (.cons (flat_lit xs M id h) .nil))

theorem wplain_any (bin : Bool) (s : List UInt8) (hs : s.length ≤ 1000000) (M : Mem Ob) : T 9 [.bool bin, .str s] M (fun v M' ch => v = .str (refPlain bin s) ∧ M' = M ∧ ch = []) :=
  (wplain_ok bin s hs).lend (by rintro v rfl; exact .flat (.str _)) (.cons (.flat (.bool _)) (.cons (.flat (.str _)) .nil))
theorem rplain_any (bin : Bool) (s : List UInt8) (hs : s.length ≤ 1000000) (M : Mem Ob) : T 8 [.bool bin, .str s] M (fun v M' ch => v = .str (refPlain bin s) ∧ M' = M ∧ ch = []) :=
  (rplain_ok bin s hs).lend (by rintro v rfl; exact .flat (.str _)) (.cons (.flat (.bool _)) (.cons (.flat (.str _)) .nil))
theorem data_nil (bin : Bool) (M : Mem Ob) : T 7 [.bool bin, .nilS] M (fun v M' ch => v = .str (wireData bin []) ∧ M' = M ∧ ch = []) :=
  ((data0_ok bin [] (by simp) (by simp)).mono fun v M' ch h _ => ⟨h.1, h.2.1⟩).lend (by rintro v rfl; exact .flat (.str _)) (.cons (.flat (.bool _)) (.cons .nil .nil))

theorem flat_bd (xs : List (List UInt8)) (m : Nat) (h : ∀ x, x ∈ xs → x.length ≤ m) (hn : xs.length ≤ 20) : xs.flatten.length ≤ m * 20 := by
  have key : ∀ ys : List (List UInt8), (∀ x, x ∈ ys → x.length ≤ m) → ys.flatten.length ≤ m * ys.length := by
    intro ys
    induction ys with
    | nil => intro _; simp
    | cons y ys ih =>
      intro h
      have := ih fun x hx => h x (by simp [hx])
      have := h y (by simp)
      rw [List.flatten_cons, List.length_append, List.length_cons, Nat.mul_add]; omega
  exact Nat.le_trans (key xs h) (Nat.mul_le_mul_left _ hn)

theorem alive_ok : T 6 [] [] (fun v M' _ => v = .bool true ∧ M' = []) := by
  refine CallT.by_body Tryd.func6 rfl Tryd.call6 rfl (.refl _ _ _) ?_
  ((conv => whnf); (repeat ((with_reducible refine Rest.mk ?_); (conv => whnf))))
  refine (data_lit false [[97, 13], [98, 13, 10]] _ 0 (by simp) (by simp) rfl).mono ?_
  rintro v M' ch ⟨rfl, rfl, rfl⟩ _
  ((conv => whnf); (repeat ((with_reducible refine Rest.mk ?_); (conv => whnf))))
  refine (wplain_any false [97, 13, 0] (by simp) _).mono ?_
  rintro v M' ch ⟨rfl, rfl, rfl⟩ _
  ((conv => whnf); (repeat ((with_reducible refine Rest.mk ?_); (conv => whnf))))
  exact fin.flat (v' := .bool true) (.bool _) ⟨rfl, rfl⟩

theorem parts_ok (bin : Bool) (xs : List (List UInt8)) : T 3 [.bool bin, .vs (xs.map .str) xs.length] [] (fun v M' _ => v = .bool true ∧ M' = []) := by
  refine CallT.by_body Tryd.func3 rfl Tryd.call3 rfl (.refl _ _ _) ?_
  have htrue : ∀ (M : Mem Ob), fin unfW 0 [] (fun v M' _ => v = .bool true ∧ M' = []) (.bool true) M := fun M => fin.flat (.bool _) ⟨rfl, rfl⟩
  ((conv => whnf); (repeat ((with_reducible refine Rest.mk ?_); (conv => whnf))))
  refine testK_split (fun h => ?_) (fun h => ?_) <;> ((conv => whnf); (repeat ((with_reducible refine Rest.mk ?_); (conv => whnf))))
  · refine alive_ok.mono ?_
    rintro v M' ch ⟨rfl, rfl⟩ _
    ((conv => whnf); (repeat ((with_reducible refine Rest.mk ?_); (conv => whnf))))
    exact htrue _
  have hn : xs.length ≤ 20 := by simp at h; omega
  refine alive_ok.mono ?_
  rintro v M' ch ⟨rfl, rfl⟩ _
  ((conv => whnf); (repeat ((with_reducible refine Rest.mk ?_); (conv => whnf))))
  refine .inl (loopG (α := Nat) (inv := fun k => k ≤ xs.length ∧ ∀ x, x ∈ xs.take k → x.length ≤ 100)
    (st := fun k => [.bool bin, .vs (xs.map .str) xs.length, .und, .und, .bool false, .str ((xs.take k).map (wireData bin)).flatten, .str (xs.take k).flatten, .int .i64 (k : Nat), .und, .und, .und, .und, .und, .und, .und, .und, .und, .und, .und, .und, .und, .und, .und, .und, .und, .und, .und, .und, .und, .und, .und, .und, .und, .und, .und, .und, .und, .und, .und, .und, .und, .und, .und, .und, .und, .und, .und, .und, .und, .und, .und, .und, .und, .und, .und, .und, .und, .und, .und, .und, .und, .und, .und, .und, .und, .und, .und, .und, .und, .und, .und, .und, .und, .und, .und, .und, .und, .und, .und, .und, .und])
    (mm := fun k => []) (μ := fun k => xs.length - k) 0 (by simp) ?_ ?_)
  · exact .env (by (repeat' (first | exact LowL.nil _ | refine LowL.cons (.und _) ?_ | refine LowL.cons (.int _ _) ?_ | refine LowL.cons (.str _) ?_ | refine LowL.cons (.bool _) ?_ | refine LowL.cons (.ptr rfl) ?_ | refine LowL.cons (.sl rfl) ?_ | refine LowL.cons (low_vsS _ _) ?_ | refine LowL.cons (low_vsI _ _) ?_ | refine LowL.cons (low_tx rfl _) ?_ | refine LowL.cons .nilS ?_ | refine LowL.cons .nilP ?_ | refine LowL.cons (low_acc rfl _) ?_ | refine LowL.cons (low_toSl rfl _) ?_ | refine LowL.cons (low_bySl rfl _) ?_ | refine LowL.cons (low_toSlE rfl (by simp)) ?_)))
  rintro k ⟨hk, hx⟩
  dsimp only
  ((conv => whnf); (repeat ((with_reducible refine Rest.mk ?_); (conv => whnf))))
  refine testK_split (fun h1 => ?_) (fun h1 => ?_) <;> ((conv => whnf); (repeat ((with_reducible refine Rest.mk ?_); (conv => whnf))))
  · have hkn : k < xs.length := by simp at h1; omega
    refine testK_true (by simp; omega) ?_
    ((conv => whnf); (repeat ((with_reducible refine Rest.mk ?_); (conv => whnf))))
    refine dropAt (v := .str xs[k]) (by simp [sz9, hkn]) ?_
    ((conv => whnf); (repeat ((with_reducible refine Rest.mk ?_); (conv => whnf))))
    refine testK_split (fun h2 => ?_) (fun h2 => ?_) <;> ((conv => whnf); (repeat ((with_reducible refine Rest.mk ?_); (conv => whnf))))
    · exact htrue _
    have hxk : xs[k].length ≤ 100 := by simp at h2; omega
    refine testK_true (by simp; omega) ?_
    ((conv => whnf); (repeat ((with_reducible refine Rest.mk ?_); (conv => whnf))))
    refine dropAt (v := .str xs[k]) (by simp [sz9, hkn]) ?_
    ((conv => whnf); (repeat ((with_reducible refine Rest.mk ?_); (conv => whnf))))
    refine (data_lit bin [xs[k]] _ 0 (by simp) (by simp; omega) rfl).mono ?_
    rintro v M' ch ⟨rfl, rfl, rfl⟩ _
    rw [show [xs[k]].flatten = xs[k] by simp]
    have hwl := wireData_len bin xs[k]
    ((conv => whnf); (repeat ((with_reducible refine Rest.mk ?_); (conv => whnf))))
    refine testK_true (by simp; omega) ?_
    ((conv => whnf); (repeat ((with_reducible refine Rest.mk ?_); (conv => whnf))))
    refine dropAt (v := .str xs[k]) (by simp [sz9, hkn]) ?_
    ((conv => whnf); (repeat ((with_reducible refine Rest.mk ?_); (conv => whnf))))
    refine testK_false (by simp; omega) ?_
    ((conv => whnf); (repeat ((with_reducible refine Rest.mk ?_); (conv => whnf))))
    refine testK_true (by simp; omega) ?_
    ((conv => whnf); (repeat ((with_reducible refine Rest.mk ?_); (conv => whnf))))
    refine dropAt (v := .str xs[k]) (by simp [sz9, hkn]) ?_
    ((conv => whnf); (repeat ((with_reducible refine Rest.mk ?_); (conv => whnf))))
    refine testK_false (by simp; rw [wrap_in (by omega) (by omega)]; omega) ?_
    ((conv => whnf); (repeat ((with_reducible refine Rest.mk ?_); (conv => whnf))))
    refine testK_true (b := drawOk _ _ _) (by kernel_rfl) ?_
    ((conv => whnf); (repeat ((with_reducible refine Rest.mk ?_); (conv => whnf))))
    have htl : (xs.take k).length ≤ 20 := by simp; omega
    have hfl : (xs.take k).flatten.length ≤ 2000 := flat_bd (xs.take k) 100 hx htl
    have hsl : ((xs.take k).map (wireData bin)).flatten.length ≤ 4000 := flat_bd ((xs.take k).map (wireData bin)) 200 (by intro x hx'; simp only [List.mem_map] at hx'; obtain ⟨y, hy, rfl⟩ := hx'; have := wireData_len bin y; have := hx y hy; omega) (by simpa using htl)
    refine testK_true (by simp only [decide_eq_true_eq]; omega) ?_
    ((conv => whnf); (repeat ((with_reducible refine Rest.mk ?_); (conv => whnf))))
    refine testK_true (by simp; omega) ?_
    ((conv => whnf); (repeat ((with_reducible refine Rest.mk ?_); (conv => whnf))))
    refine dropAt (v := .str xs[k]) (by simp [sz9, hkn]) ?_
    ((conv => whnf); (repeat ((with_reducible refine Rest.mk ?_); (conv => whnf))))
    refine testK_true (by simp only [decide_eq_true_eq]; omega) ?_
    ((conv => whnf); (repeat ((with_reducible refine Rest.mk ?_); (conv => whnf))))
    rw [wrap_succ (by omega)]
    have e1 : ((xs.take k).map (wireData bin)).flatten ++ wireData bin xs[k] = ((xs.take (k + 1)).map (wireData bin)).flatten := by
      rw [List.take_succ_eq_append_getElem hkn, List.map_append, List.flatten_append]; simp only [List.map_cons, List.map_nil, List.flatten_cons, List.flatten_nil, List.append_nil]
    rw [e1, ← flatten_take_succ hkn]
    refine ⟨k + 1, _, _, .low (τ := []) (Parts.low (by decide) .nil) (by (repeat' (first | exact LowL.nil _ | refine LowL.cons (.und _) ?_ | refine LowL.cons (.int _ _) ?_ | refine LowL.cons (.str _) ?_ | refine LowL.cons (.bool _) ?_ | refine LowL.cons (.ptr rfl) ?_ | refine LowL.cons (.sl rfl) ?_ | refine LowL.cons (low_vsS _ _) ?_ | refine LowL.cons (low_vsI _ _) ?_ | refine LowL.cons (low_tx rfl _) ?_ | refine LowL.cons .nilS ?_ | refine LowL.cons .nilP ?_ | refine LowL.cons (low_acc rfl _) ?_ | refine LowL.cons (low_toSl rfl _) ?_ | refine LowL.cons (low_bySl rfl _) ?_ | refine LowL.cons (low_toSlE rfl (by simp)) ?_))) (Nat.zero_le _) (fun i hi => by simp at hi), ⟨⟨hkn, fun x hx' => ?_⟩, rfl, rfl⟩, by omega⟩
    rw [List.take_succ_eq_append_getElem hkn] at hx'
    rcases List.mem_append.1 hx' with hx' | hx'
    · exact hx x hx'
    · simp at hx'; rw [hx']; exact hxk
  · have : k = xs.length := by simp at h1; omega
    subst this
    rw [List.take_length] at *
    have hfl : xs.flatten.length ≤ 2000 := flat_bd xs 100 hx hn
    have hsl : (xs.map (wireData bin)).flatten.length ≤ 4000 := flat_bd (xs.map (wireData bin)) 200 (by intro x hx'; simp at hx'; obtain ⟨y, hy, rfl⟩ := hx'; have := wireData_len bin y; have := hx y hy; omega) (by simpa using hn)
    refine (rplain_any bin _ (by omega) _).mono ?_
    rintro v M' ch ⟨rfl, rfl, rfl⟩ _
    rw [parts_plain]
    ((conv => whnf); (repeat ((with_reducible refine Rest.mk ?_); (conv => whnf))))
    refine testK_true (by simp) ?_
    ((conv => whnf); (repeat ((with_reducible refine Rest.mk ?_); (conv => whnf))))
    refine (wplain_any bin _ (by omega) _).mono ?_
    rintro v M' ch ⟨rfl, rfl, rfl⟩ _
    rw [parts_plain]
    ((conv => whnf); (repeat ((with_reducible refine Rest.mk ?_); (conv => whnf))))
    refine testK_true (by simp) ?_
    ((conv => whnf); (repeat ((with_reducible refine Rest.mk ?_); (conv => whnf))))
    refine (data_nil bin _).mono ?_
    rintro v M' ch ⟨rfl, rfl, rfl⟩ _
    rw [show wireData bin [] = [] by cases bin <;> rfl]
    ((conv => whnf); (repeat ((with_reducible refine Rest.mk ?_); (conv => whnf))))
    exact htrue _
end Go.Am
end
