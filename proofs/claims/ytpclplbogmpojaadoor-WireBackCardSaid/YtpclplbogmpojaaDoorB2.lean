/-
  Part 2 of a proof: an abstract machine for the program, and what pieces of the program compute (AmOpS4, AmOpS5, AmOpS6, AmOpS7, AmOpS8, AmOpS9, AmOpS10, AmOpS11, AmOpS12). No condition of its own.
-/
import Derived.Test.YtpclplbogmpojaaDoorB1
import Derived.Laws.StructEq
import Derived.Laws.BytesString
import Derived.Laws.LoneSync
import Derived.IntWalk
import Derived.Laws.Append
set_option linter.unusedSimpArgs false
set_option linter.unusedVariables false
section
namespace Go.Am
open Go

variable {O : Type} {unf : O → List (AO O)} {P : Program}

theorem buildSlice_sound {κ : Ctx} {M : Mem O} {w : World} {S : Nat → Prop} (hR : Rep unf κ M w S) {a : Act} {t : TypeId} {len : Nat} {ps : Array (Nat × Operand)} {vs : List (Nat × AV)} {K : AV → Mem O → Prop}
    (h : buildSliceA P t len vs M K) (hv : PRel κ vs (ps.toList.map fun x => (x.1, a.eval x.2))) : ∃ cv w', Done unf κ S w M.length K cv w' ∧ Runs P a (.buildSlice t len ps) w cv w' := by
  obtain ⟨el, n, cs, A, h, hd, hrun, hl, ho, hc⟩ := row_sound (κ := κ) (w := w) h hv
  have h := appK_one h
  obtain ⟨κ', S', hR', hle, hP, hat⟩ := new_sound (ek := none) hR el ho hl hc
  refine ⟨.slice (some ⟨w.heap.size, 0, none⟩) len len, _, ⟨κ', S', _, _, h, hR', .sl (L := ⟨w.heap.size, 0, none, A.size⟩) (Nat.le_refl _) hat rfl, hle, hP, by simp⟩, Runs.mk fun o' ho' => ?_⟩
  simp only [execOp, ho', Sem.run_bind, hrun]; rfl

theorem buildVs_sound {κ : Ctx} {M : Mem O} {w : World} {S : Nat → Prop} (hR : Rep unf κ M w S) {a : Act} {t : TypeId} {len : Nat} {ps : Array (Nat × Operand)} {vs : List (Nat × AV)} {K : AV → Mem O → Prop}
    (h : buildVsA P t len vs M K) (hv : PRel κ vs (ps.toList.map fun x => (x.1, a.eval x.2))) : ∃ κ' v cv w', K v M ∧ Rep unf κ' M w' S ∧ VRel κ' v cv ∧ κ.Le κ' ∧ κ'.at_ = κ.at_ ∧ Post M.length κ S w κ' S w' ∧ Runs P a (.buildSlice t len ps) w cv w' := by
  obtain ⟨el, n, cs, A, h, hd, hrun, hl, ho, hc⟩ := row_sound (κ := κ) (w := w) h hv
  obtain ⟨κ', hR', hle, hP, hi, ha⟩ := hR.allocImm (w' := { w with heap := w.heap.push (.cells A el) }) (fz := (0, 0)) rfl ⟨rfl, rfl, rfl⟩ ho
  refine ⟨κ', _, .slice (some ⟨w.heap.size, 0, none⟩) len len, _, h, hR',   .vs (fun i => A.getD i undef) (Nat.le_refl _) hi (fun i hi => ?_) (fun i hi => ?_), hle, ha, hP, Runs.mk fun o' ho' => ?_⟩
  · have hA : i < A.size := by omega
    exact ⟨by simp [Array.getD, hA], by simp only [Array.getD, hA, dif_pos]; exact ho _ (Array.getElem_mem hA)⟩
  · have hA : i < A.size := by omega
    have := (hc i hi hA).le hle
    simpa [Array.getD, hA] using this
  · simp only [execOp, ho', Sem.run_bind, hrun]; rfl

theorem nilCheck_sound {κ : Ctx} {M : Mem O} {w : World} {S : Nat → Prop} (hR : Rep unf κ M w S) {a : Act} {x : Operand} {p : AV} {K : AV → Mem O → Prop} (h : nilCheckA p M K) (hv : VRel κ p (a.eval x)) :
    ∃ cv, Done unf κ S w M.length K cv w ∧ Runs P a (.nilCheck x) w cv w := by
  have hx : ∀ q, a.eval x = .pointer (some q) → Runs P a (.nilCheck x) w (a.eval x) w := fun q hq => Runs.mk fun o' ho' => by simp [execOp, ho', hq]
  cases p with
  | ptr id off =>
    obtain ⟨L, hL, hpe⟩ := hv.ptr_inv
    exact ⟨_, Done.pure h hR hv, hx _ hpe⟩
  | pv cs =>
    refine ⟨_, Done.pure h hR hv, ?_⟩
    generalize hq : a.eval x = c at hv
    cases hv with
    | pv f h1 h2 h3 => rw [← hq]; exact hx _ hq
  | _ => exact h.elim

/-- an operation that leaves all as it is -/
theorem still {κ : Ctx} {M : Mem O} {w : World} {S : Nat → Prop} (hR : Rep unf κ M w S) {a : Act} {o : Op} {K : AV → Mem O → Prop} {v : AV} {cv : Value} (h : K v M) (hv : VRel κ v cv) (hr : Runs P a o w cv w) :
    ∃ cv, Done unf κ S w M.length K cv w ∧ Runs P a o w cv w := ⟨cv, Done.pure h hR hv, hr⟩

theorem VRel.int_inv {κ : Ctx} {k : IntKind} {n : Int} {cv : Value} (h : VRel κ (.int k n) cv) : cv = .int k n := by cases h; rfl
theorem VRel.bool_inv {κ : Ctx} {b : Bool} {cv : Value} (h : VRel κ (.bool b) cv) : cv = .bool b := by cases h; rfl
theorem VRel.str_inv {κ : Ctx} {s : List UInt8} {cv : Value} (h : VRel κ (.str s) cv) : ∃ b : ByteArray, cv = .string b ∧ b.data.toList = s := by cases h; exact ⟨_, rfl, rfl⟩
theorem VRel.nilS_inv {κ : Ctx} {cv : Value} (h : VRel κ .nilS cv) : cv = .slice none 0 0 := by cases h; rfl
theorem VRel.nilP_inv {κ : Ctx} {cv : Value} (h : VRel κ .nilP cv) : cv = .pointer none := by cases h; rfl
theorem VRel.sl_inv {κ : Ctx} {id off len cap : Nat} {cv : Value} (h : VRel κ (.sl id off len cap) cv) : ∃ L q c, κ.at_ id = some L ∧ q.block = L.blk ∧ q.spot = none ∧ cv = .slice (some q) len c ∧ cap ≤ c ∧ (L.ek = none → c = cap) ∧ (0 < cap ∨ L.ek ≠ none → q.off = L.base + off) ∧
    (∀ z, L.ek = some z → off + c * z ≤ L.room) ∧ len ≤ cap := by
  cases h with
  | sl h0 h1 h2 => exact ⟨_, _, _, h1, rfl, rfl, rfl, Nat.le_refl _, fun _ => rfl, fun _ => rfl, (fun z hz => by rw [h2] at hz; cases hz), h0⟩
  | slz h1 h2 => exact ⟨_, _, _, h1, rfl, rfl, rfl, Nat.le_refl _, fun _ => rfl, (fun h => by rcases h with h | h; omega; exact absurd h2 h), (fun z hz => by rw [h2] at hz; cases hz), Nat.le_refl _⟩
  | slr h0 h1 h2 h3 h4 => exact ⟨_, _, _, h1, rfl, rfl, rfl, h3, (fun h => by rw [h2] at h; cases h), fun _ => rfl, (fun z hz => by rw [h2] at hz; cases hz; exact h4), h0⟩

theorem VRel.bool' {κ : Ctx} {b c : Bool} (h : b = c) : VRel κ (.bool b) (.bool c) := by subst h; exact .bool _
theorem VRel.int' {κ : Ctx} {k : IntKind} {a b : Int} (h : a = b) : VRel κ (.int k a) (.int k b) := by subst h; exact .int _ _
theorem VRel.str' {κ : Ctx} {s : List UInt8} {b : ByteArray} (h : b.data.toList = s) : VRel κ (.str s) (.string b) := by subst h; exact .str _

theorem int_sound {κ : Ctx} {op : BinOp} {k : IntKind} {x y : Int} {R : AV → Prop} (h : intA op k x y R) (hop : op ≠ .shl) (hop' : op ≠ .shr) (w : World) (t : TypeId) : ∃ v cv, R v ∧ VRel κ v cv ∧ (binOp op t (.int k x) (.int k y)).run P w = .ok cv w := by
  cases op with
  | shl => exact absurd rfl hop
  | shr => exact absurd rfl hop'
  | add => exact ⟨_, _, h, .int _ _, by simp [binOp, Op.intArith]⟩
  | sub => exact ⟨_, _, h, .int _ _, by simp [binOp, Op.intArith]⟩
  | mul => exact ⟨_, _, h, .int _ _, by simp [binOp, Op.intArith]⟩
  | quo =>
    obtain ⟨h1, h⟩ := payK_iff.1 h
    simp at h1
    exact ⟨_, _, h, .int _ _, by simp [binOp, Op.intDiv, h1]⟩
  | rem =>
    obtain ⟨h1, h⟩ := payK_iff.1 h
    simp at h1
    exact ⟨_, _, h, .int _ _, by simp [binOp, Op.intDiv, h1]⟩
  | and => exact ⟨_, _, h, .int _ _, by simp [binOp, Op.intBits, bin2]⟩
  | or => exact ⟨_, _, h, .int _ _, by simp [binOp, Op.intBits, bin2]⟩
  | xor => exact ⟨_, _, h, .int _ _, by simp [binOp, Op.intBits, bin2]⟩
  | andNot => exact ⟨_, _, h, .int _ _, by simp [binOp, Op.intBits, bin2]⟩
  | eql => exact ⟨_, _, h, .bool' (c := x == y) (by rw [Bool.eq_iff_iff]; simp), by simp [binOp, Op.intCmp]⟩
  | neq => exact ⟨_, _, h, .bool' (c := x != y) (by rw [Bool.eq_iff_iff]; simp), by simp [binOp, Op.intCmp]⟩
  | lss => exact ⟨_, _, h, .bool _, by simp [binOp, Op.intCmp]⟩
  | leq => exact ⟨_, _, h, .bool _, by simp [binOp, Op.intCmp]⟩
  | gtr => exact ⟨_, _, h, .bool _, by simp [binOp, Op.intCmp]⟩
  | geq => exact ⟨_, _, h, .bool _, by simp [binOp, Op.intCmp]⟩

theorem shift_sound {κ : Ctx} {op : BinOp} {k k' : IntKind} {x y : Int} {R : AV → Prop} (h : shiftA op k x y R) (w : World) (t : TypeId) : ∃ v cv, R v ∧ VRel κ v cv ∧ (binOp op t (.int k x) (.int k' y)).run P w = .ok cv w := by
  cases op with
  | shl =>
    obtain ⟨h1, h⟩ := payK_iff.1 h
    simp at h1
    exact ⟨_, _, h, .int _ _, by simp [binOp, Op.shift, show ¬ y < 0 by omega]⟩
  | shr =>
    obtain ⟨h1, h⟩ := payK_iff.1 h
    simp at h1
    exact ⟨_, _, h, .int _ _, by simp [binOp, Op.shift, show ¬ y < 0 by omega]⟩
  | _ => exact h.elim

theorem toList_eq (b : ByteArray) : b.toList = b.data.toList := by
  have : ∀ (n i : Nat) (r : List UInt8), b.size - i = n → ByteArray.toList.loop b i r = r.reverse ++ b.data.toList.drop i := by
    intro n
    induction n with
    | zero =>
      intro i r h
      unfold ByteArray.toList.loop
      have : ¬ i < b.size := by omega
      simp only [this, if_false]
      rw [List.drop_of_length_le (by simpa using (by omega : b.size ≤ i))]
      simp
    | succ n ih =>
      intro i r h
      unfold ByteArray.toList.loop
      have hi : i < b.size := by omega
      simp only [hi, if_true]
      rw [ih (i + 1) _ (by omega)]
      have hi' : i < b.data.toList.length := by simpa using hi
      rw [List.drop_eq_getElem_cons hi']
      simp [ByteArray.get!, Array.getElem!_eq_getD, Array.getD]
      exact dif_pos hi
  rw [ByteArray.toList, this b.size 0 [] rfl]
  simp

theorem str_sound {κ : Ctx} {op : BinOp} {x y : ByteArray} {R : AV → Prop} (h : strA op x.data.toList y.data.toList R) (w : World) (t : TypeId) : ∃ v cv, R v ∧ VRel κ v cv ∧ (binOp op t (.string x) (.string y)).run P w = .ok cv w := by
  have he : (x.data.toList == y.data.toList) = decide (x.data.toList = y.data.toList) := by rw [Bool.eq_iff_iff]; simp
  cases op with
  | add =>
    obtain ⟨h1, h⟩ := payK_iff.1 h
    refine ⟨_, .string (x ++ y), h, .str' (by simp), ?_⟩
    have h2 : ¬ (((x.size + y.size : Nat) : Int) > IntKind.i64.max) := by
      simp at h1
      have e : IntKind.i64.max = 9223372036854775807 := by decide
      have hx : x.size = x.data.size := rfl
      have hy : y.size = y.data.size := rfl
      rw [e]
      omega
    simp only [binOp, Op.stringOp]
    rw [if_neg h2]
    rfl
  | eql => exact ⟨_, _, h, .bool _, by simp [binOp, Op.stringOp, toList_eq, he]⟩
  | neq => exact ⟨_, _, h, .bool _, by simp [binOp, Op.stringOp, toList_eq, he]⟩
  | lss => exact ⟨_, _, h, .bool _, by simp [binOp, Op.stringOp, toList_eq]⟩
  | leq => exact ⟨_, _, h, .bool _, by simp [binOp, Op.stringOp, toList_eq, he]⟩
  | gtr => exact ⟨_, _, h, .bool _, by simp [binOp, Op.stringOp, toList_eq, he]⟩
  | geq => exact ⟨_, _, h, .bool _, by simp [binOp, Op.stringOp, toList_eq]⟩
  | _ => exact h.elim

end Go.Am
end
section
namespace Go.Am
open Go

variable {O : Type} {unf : O → List (AO O)} {P : Program}

theorem part_sound {κ : Ctx} {t : TypeId} {off : Nat} {R : AV → Prop} {cs : List AV} {A : Array Value} (h : partK P t off R cs) (hl : cs.length = A.size) (ho : ∀ v, v ∈ A → one v) (hc : ∀ i (h : i < cs.length) (h' : i < A.size), VRel κ cs[i] A[i]) (w : World) :
    ∃ v cv, R v ∧ VRel κ v cv ∧ (part t A off).run P w = .ok cv w := by
  obtain ⟨d, hd, h⟩ := aggK_iff.1 h
  cases hg : isA d with
  | true =>
    rw [hg] at h
    obtain ⟨i, hi, h⟩ := sizeK_iff.1 h
    obtain ⟨h1, h⟩ := dropK_iff.1 h
    obtain ⟨h2, h⟩ := takeK_iff.1 h
    simp at h2
    refine ⟨_, .agg (A.extract off (off + i.size)), h, .agg (by simp; omega) (fun v hv => ho v ?_) (fun j h3 h4 => ?_), ?_⟩
    · obtain ⟨j, hj, rfl⟩ := Array.mem_iff_getElem.1 hv
      simp
    · simp at h3 h4
      simpa using hc (off + j) (by omega) (by omega)
    · simp [part, run_isAgg hd, hg, run_size hi]
  | false =>
    rw [hg] at h
    obtain ⟨h1, h⟩ := dropK_iff.1 h
    by_cases h2 : off < cs.length
    · rw [List.drop_eq_getElem_cons h2] at h
      refine ⟨_, A[off]'(by omega), h, hc off h2 (by omega), ?_⟩
      simp [part, run_isAgg hd, hg, show off < A.size by omega]
    · rw [List.drop_of_length_le (by omega)] at h
      exact h.elim

theorem eq_sound {κ : Ctx} : ∀ (n : Nat) {t : TypeId} {x y : AV} {cx cy : Value} {R : Bool → Prop}, eqT P n t x y R → VRel κ x cx → VRel κ y cy → ∀ (m : Nat) (w : World), n ≤ m → ∃ b, R b ∧ (Op.equalIn m t cx cy).run P w = .ok b w
  | 0, t, x, y, cx, cy, R, h, _, _, _, _, _ => h.elim
  | n + 1, t, x, y, cx, cy, R, h, hx, hy, m, w, hm => by
    obtain ⟨m, rfl⟩ : ∃ k, m = k + 1 := ⟨m - 1, by omega⟩
    obtain ⟨d, hd, h⟩ := descK_iff.1 h
    split at h
    · cases hx; cases hy
      rename_i a b
      exact ⟨_, h, by simp [Op.equalIn, run_und hd]; rw [Bool.eq_iff_iff]; simp⟩
    · cases hx; cases hy
      obtain ⟨hk, h2⟩ := payK_iff.1 h
      simp at hk; subst hk
      exact ⟨_, h2, by simp [Op.equalIn, run_und hd]; rw [Bool.eq_iff_iff]; simp⟩
    · obtain ⟨bx, rfl, rfl⟩ := hx.str_inv
      obtain ⟨by', rfl, rfl⟩ := hy.str_inv
      refine ⟨_, h, ?_⟩
      simp only [Op.equalIn, Sem.run_bind, run_und hd, Result.andThen_ok, Sem.run_pure, beq_toListBytes, toList_eq]
      congr 1
      rw [Bool.eq_iff_iff]; simp
    · rename_i fs xs ys _
      obtain ⟨hok, h5⟩ := payK_iff.1 h
      clear h
      have h := h5
      clear h5
      unfold eqOk at hok
      simp only [Bool.and_eq_true, Bool.not_eq_true', List.all_eq_true] at hok
      cases hx with
      | agg hl ho hc =>
      cases hy with
      | agg hl' ho' hc' =>
      rename_i A B
      have hfs : P.fieldsOf t = fs := by simp [Program.fieldsOf, hd]
      have hrun := run_equalIn_struct w m t A B (by rw [hfs]; exact hd) hok.1.1
      rw [hfs] at hrun
      rw [hrun]
      have hnb := hok.2
      clear hrun hok hfs hd
      rename_i h00; clear h00
      generalize fs.toList = l at h hnb
      induction l generalizing R with
      | nil => exact ⟨true, h, rfl⟩
      | cons f l ih =>
        simp only [eqFs] at h
        obtain ⟨a, ca, h, hra, ha⟩ := part_sound h hl ho hc w
        obtain ⟨b, cb, h, hrb, hb⟩ := part_sound h hl' ho' hc' w
        obtain ⟨r, h, hr⟩ := eq_sound n h hra hrb m w (by omega)
        obtain ⟨r', h', hr'⟩ := ih _ h (fun g hg => hnb g (by simp [hg]))
        refine ⟨_, h', ?_⟩
        have hne : f.name ≠ "_" := by simpa using hnb f (by simp)
        simp only [Op.eqFields, ne_eq, hne, not_false_eq_true, if_true, Sem.run_bind, ha, hb, hr, Result.andThen_ok]
        cases r with
        | true => simpa using hr'
        | false => rfl
    · cases hx; cases hy
      exact ⟨_, h, by simp [Op.equalIn, run_und hd]⟩
    · cases hx; cases hy
      exact ⟨_, h, by simp [Op.equalIn, run_und hd]⟩
    · cases hx; cases hy
      exact ⟨_, h, by simp [Op.equalIn, run_und hd]⟩
    · cases hx; cases hy
      exact ⟨_, h, by simp [Op.equalIn, run_und hd]⟩
    · cases hy
      obtain ⟨_, _, _, _, _, _, rfl, _⟩ := hx.sl_inv
      exact ⟨_, h, by simp [Op.equalIn, run_und hd]⟩
    · cases hx
      obtain ⟨_, _, _, _, _, _, rfl, _⟩ := hy.sl_inv
      exact ⟨_, h, by simp [Op.equalIn, run_und hd]⟩
    · cases hx; cases hy
      exact ⟨_, h, by simp [Op.equalIn, run_und hd]⟩
    · cases hx; cases hy
      exact ⟨_, h, by simp [Op.equalIn, run_und hd]⟩
    · cases hx; cases hy
      exact ⟨_, h, by simp [Op.equalIn, run_und hd]⟩
    · exact h.elim

end Go.Am
end
section
namespace Go.Am
open Go

variable {O : Type} {unf : O → List (AO O)} {P : Program}

theorem guard_ok (op : BinOp) (t : TypeId) (x y : Operand) {a b : Value} (h1 : ¬(a = .nilIface ∧ b = .nilIface)) (h2 : ∀ l m, ¬(a = .agg l ∧ b = .agg m)) (w : World) : (eqGuard op t x y a b).run P w = .ok () w := by
  unfold eqGuard
  rw [Sem.run_ite]
  refine ite_eq_left_iff.2 fun _ => ?_
  split
  · exact absurd ⟨rfl, rfl⟩ h1
  · exact absurd ⟨rfl, rfl⟩ (h2 _ _)
  · rfl

theorem run_eql {t : TypeId} {a b : Value} {r : Bool} {w : World} (h : (Op.equalIn 10000 t a b).run P w = .ok r w) (hi : ∀ k n, a ≠ .int k n) (hs : ∀ s, a ≠ .string s) (hf : ∀ k n, a ≠ .float k n) (hc : ∀ k n m, a ≠ .complex k n m) :
    (binOp .eql t a b).run P w = .ok (.bool r) w ∧ (binOp .neq t a b).run P w = .ok (.bool (!r)) w := by
  have h' : (Op.equal t a b).run P w = .ok r w := h
  constructor
  · cases a <;> first
      | exact absurd rfl (hi _ _)
      | exact absurd rfl (hs _)
      | exact absurd rfl (hf _ _)
      | exact absurd rfl (hc _ _ _)
      | (simp only [binOp, Sem.run_bind, h', Result.andThen_ok, Sem.run_pure])
  · cases a <;> first
      | exact absurd rfl (hi _ _)
      | exact absurd rfl (hs _)
      | exact absurd rfl (hf _ _)
      | exact absurd rfl (hc _ _ _)
      | (simp only [binOp, Sem.run_bind, h', Result.andThen_ok, Sem.run_pure])

/-- what '==' is asked of -/
theorem eqT_kinds {n : Nat} {t : TypeId} {x y : AV} {R : Bool → Prop} (h : eqT P (n + 1) t x y R) : (∃ a b, x = .bool a ∧ y = .bool b) ∨ (∃ k a k' b, x = .int k a ∧ y = .int k' b) ∨ (∃ a b, x = .str a ∧ y = .str b) ∨
    (∃ xs ys fs, x = .agg xs ∧ y = .agg ys ∧ eqOk P t fs = true) ∨ ((x = .nilP ∨ ∃ i o, x = .ptr i o) ∧ (y = .nilP ∨ ∃ i o, y = .ptr i o)) ∨ ((x = .nilS ∨ ∃ i o l c, x = .sl i o l c) ∧ (y = .nilS ∨ ∃ i o l c, y = .sl i o l c)) ∨ ((x = .nilF ∨ ∃ f l, x = .fn f l) ∧ (y = .nilF ∨ ∃ f l, y = .fn f l)) := by
  obtain ⟨d, hd, h⟩ := descK_iff.1 h
  split at h
  · exact .inl ⟨_, _, rfl, rfl⟩
  · exact .inr (.inl ⟨_, _, _, _, rfl, rfl⟩)
  · exact .inr (.inr (.inl ⟨_, _, rfl, rfl⟩))
  · exact .inr (.inr (.inr (.inl ⟨_, _, _, rfl, rfl, (payK_iff.1 h).1⟩)))
  · exact .inr (.inr (.inr (.inr (.inl ⟨.inl rfl, .inl rfl⟩))))
  · exact .inr (.inr (.inr (.inr (.inl ⟨.inl rfl, .inr ⟨_, _, rfl⟩⟩))))
  · exact .inr (.inr (.inr (.inr (.inl ⟨.inr ⟨_, _, rfl⟩, .inl rfl⟩))))
  · exact .inr (.inr (.inr (.inr (.inr (.inl ⟨.inl rfl, .inl rfl⟩)))))
  · exact .inr (.inr (.inr (.inr (.inr (.inl ⟨.inr ⟨_, _, _, _, rfl⟩, .inl rfl⟩)))))
  · exact .inr (.inr (.inr (.inr (.inr (.inl ⟨.inl rfl, .inr ⟨_, _, _, _, rfl⟩⟩)))))
  · exact .inr (.inr (.inr (.inr (.inr (.inr ⟨.inl rfl, .inl rfl⟩)))))
  · exact .inr (.inr (.inr (.inr (.inr (.inr ⟨.inr ⟨_, _, rfl⟩, .inl rfl⟩)))))
  · exact .inr (.inr (.inr (.inr (.inr (.inr ⟨.inl rfl, .inr ⟨_, _, rfl⟩⟩)))))
  · exact h.elim

/-- of '==' of values that are no numbers and no texts: the guard, and what is yielded -/
theorem eqT_run {κ : Ctx} {n : Nat} {t : TypeId} {x y : AV} {cx cy : Value} {R : Bool → Prop} (h : eqT P (n + 1) t x y R) (hn : n < 9999) (hx : VRel κ x cx) (hy : VRel κ y cy) (hni : ∀ k a, x ≠ .int k a) (hns : ∀ s, x ≠ .str s) (w : World) :
    ∃ b, R b ∧ (∀ op u v, (eqGuard op t u v cx cy).run P w = .ok () w) ∧ (binOp .eql t cx cy).run P w = .ok (.bool b) w ∧ (binOp .neq t cx cy).run P w = .ok (.bool (!b)) w := by
  obtain ⟨b, hb, hr⟩ := eq_sound (n + 1) h hx hy 10000 w (by omega)
  have hk := eqT_kinds h
  have key : (∀ k n, cx ≠ .int k n) ∧ (∀ s, cx ≠ .string s) ∧ (∀ k n, cx ≠ .float k n) ∧ (∀ k n m, cx ≠ .complex k n m) ∧ ∀ op u v, (eqGuard op t u v cx cy).run P w = .ok () w := by
    rcases hk with ⟨a, b, rfl, rfl⟩ | ⟨k, a, k', b, rfl, rfl⟩ | ⟨a, b, rfl, rfl⟩ | ⟨xs, ys, fs, rfl, rfl, hok⟩ | ⟨h1, h2⟩ | ⟨h1, h2⟩ | ⟨h1, h2⟩
    · cases hx; exact ⟨by simp, by simp, by simp, by simp, fun op u v => guard_ok op t u v (by simp) (by simp) w⟩
    · exact absurd rfl (hni _ _)
    · exact absurd rfl (hns _)
    · unfold eqOk at hok
      simp only [Bool.and_eq_true, Bool.not_eq_true'] at hok
      cases hx; cases hy
      exact ⟨by simp, by simp, by simp, by simp, fun op u v => run_eqGuard_agg w op t u v _ _ hok.1.2⟩
    · rcases h1 with rfl | ⟨i, o, rfl⟩ <;> cases hx <;> exact ⟨by simp, by simp, by simp, by simp, fun op u v => guard_ok op t u v (by simp) (by simp) w⟩
    · rcases h1 with rfl | ⟨i, o, l, c, rfl⟩ <;> cases hx <;> exact ⟨by simp, by simp, by simp, by simp, fun op u v => guard_ok op t u v (by simp) (by simp) w⟩
    · rcases h1 with rfl | ⟨f, l, rfl⟩ <;> cases hx <;> exact ⟨by simp, by simp, by simp, by simp, fun op u v => guard_ok op t u v (by simp) (by simp) w⟩
  have h2 := run_eql hr key.1 key.2.1 key.2.2.1 key.2.2.2.1
  exact ⟨b, hb, key.2.2.2.2, h2.1, h2.2⟩

theorem bin_sound {κ : Ctx} {M : Mem O} {w : World} {S : Nat → Prop} (hR : Rep unf κ M w S) {a : Act} {op : BinOp} {t u : TypeId} {x y : Operand} {va vb : AV} {K : AV → Mem O → Prop} (h : binA P op t va vb M K) (hx : VRel κ va (a.eval x)) (hy : VRel κ vb (a.eval y)) :
    ∃ cv, Done unf κ S w M.length K cv w ∧ Runs P a (.binOp op t x y u) w cv w := by
  have go : ∀ v cv, K v M → VRel κ v cv → (eqGuard op t x y (a.eval x) (a.eval y)).run P w = .ok () w → (binOp op t (a.eval x) (a.eval y)).run P w = .ok cv w → ∃ cv, Done unf κ S w M.length K cv w ∧ Runs P a (.binOp op t x y u) w cv w :=
    fun v cv h1 h2 h3 h4 => still hR h1 h2 (Runs.mk fun o' ho' => by simp [execOp, ho', h3, h4])
  unfold binA at h
  split at h
  · have e1 := hx.int_inv; have e2 := hy.int_inv
    obtain ⟨v, cv, h1, h2, h3⟩ := shift_sound (κ := κ) h w t
    rw [e1, e2] at go
    exact go v cv h1 h2 (guard_ok _ _ _ _ (by simp) (by simp) w) h3
  · have e1 := hx.int_inv; have e2 := hy.int_inv
    obtain ⟨v, cv, h1, h2, h3⟩ := shift_sound (κ := κ) h w t
    rw [e1, e2] at go
    exact go v cv h1 h2 (guard_ok _ _ _ _ (by simp) (by simp) w) h3
  · rename_i h5 h6
    have e1 := hx.int_inv; have e2 := hy.int_inv
    obtain ⟨hk, h7⟩ := payK_iff.1 h
    simp at hk; subst hk
    obtain ⟨v, cv, h1, h2, h3⟩ := int_sound (κ := κ) h7 (fun e => h5 e) (fun e => h6 e) w t
    rw [e1, e2] at go
    exact go v cv h1 h2 (guard_ok _ _ _ _ (by simp) (by simp) w) h3
  · obtain ⟨b1, e1, rfl⟩ := hx.str_inv
    obtain ⟨b2, e2, rfl⟩ := hy.str_inv
    obtain ⟨v, cv, h1, h2, h3⟩ := str_sound (κ := κ) h w t
    rw [e1, e2] at go
    exact go v cv h1 h2 (guard_ok _ _ _ _ (by simp) (by simp) w) h3
  · rename_i h5 h6
    by_cases hi : ∃ k n, va = .int k n
    · obtain ⟨k, n, rfl⟩ := hi
      rcases eqT_kinds h with ⟨_, _, e, _⟩ | ⟨_, _, k', b, _, rfl⟩ | ⟨_, _, e, _⟩ | ⟨_, _, _, e, _⟩ | ⟨e, _⟩ | ⟨e, _⟩ | ⟨e, _⟩
      · cases e
      · exact absurd rfl (h5 _ _ _ _ rfl)
      · cases e
      · cases e
      · rcases e with e | ⟨_, _, e⟩ <;> cases e
      · rcases e with e | ⟨_, _, _, _, e⟩ <;> cases e
      · rcases e with e | ⟨_, _, e⟩ <;> cases e
    by_cases hs : ∃ s, va = .str s
    · obtain ⟨s, rfl⟩ := hs
      rcases eqT_kinds h with ⟨_, _, e, _⟩ | ⟨_, _, k', b, e, _⟩ | ⟨_, b, _, rfl⟩ | ⟨_, _, _, e, _⟩ | ⟨e, _⟩ | ⟨e, _⟩ | ⟨e, _⟩
      · cases e
      · cases e
      · exact absurd rfl (h6 _ _ rfl)
      · cases e
      · rcases e with e | ⟨_, _, e⟩ <;> cases e
      · rcases e with e | ⟨_, _, _, _, e⟩ <;> cases e
      · rcases e with e | ⟨_, _, e⟩ <;> cases e
    obtain ⟨b, hb, hg, h1, _⟩ := eqT_run h (by omega) hx hy (fun k n e => hi ⟨k, n, e⟩) (fun s e => hs ⟨s, e⟩) w
    exact go _ _ hb (.bool b) (hg _ _ _) h1
  · rename_i h5 h6
    by_cases hi : ∃ k n, va = .int k n
    · obtain ⟨k, n, rfl⟩ := hi
      rcases eqT_kinds h with ⟨_, _, e, _⟩ | ⟨_, _, k', b, _, rfl⟩ | ⟨_, _, e, _⟩ | ⟨_, _, _, e, _⟩ | ⟨e, _⟩ | ⟨e, _⟩ | ⟨e, _⟩
      · cases e
      · exact absurd rfl (h5 _ _ _ _ rfl)
      · cases e
      · cases e
      · rcases e with e | ⟨_, _, e⟩ <;> cases e
      · rcases e with e | ⟨_, _, _, _, e⟩ <;> cases e
      · rcases e with e | ⟨_, _, e⟩ <;> cases e
    by_cases hs : ∃ s, va = .str s
    · obtain ⟨s, rfl⟩ := hs
      rcases eqT_kinds h with ⟨_, _, e, _⟩ | ⟨_, _, k', b, e, _⟩ | ⟨_, b, _, rfl⟩ | ⟨_, _, _, e, _⟩ | ⟨e, _⟩ | ⟨e, _⟩ | ⟨e, _⟩
      · cases e
      · cases e
      · exact absurd rfl (h6 _ _ rfl)
      · cases e
      · rcases e with e | ⟨_, _, e⟩ <;> cases e
      · rcases e with e | ⟨_, _, _, _, e⟩ <;> cases e
      · rcases e with e | ⟨_, _, e⟩ <;> cases e
    obtain ⟨b, hb, hg, _, h1⟩ := eqT_run h (by omega) hx hy (fun k n e => hi ⟨k, n, e⟩) (fun s e => hs ⟨s, e⟩) w
    exact go _ _ hb (.bool (!b)) (hg _ _ _) h1
  · exact h.elim

theorem un_sound {κ : Ctx} {M : Mem O} {w : World} {S : Nat → Prop} (hR : Rep unf κ M w S) {a : Act} {op : UnOp} {t : TypeId} {x : Operand} {va : AV} {K : AV → Mem O → Prop} (h : unA op va M K) (hx : VRel κ va (a.eval x)) :
    ∃ cv, Done unf κ S w M.length K cv w ∧ Runs P a (.unOp op t x) w cv w := by
  unfold unA at h
  split at h
  · have e := hx.bool_inv
    exact still hR h (.bool _) (Runs.mk fun o' ho' => by simp [execOp, ho', e, Op.unary])
  · have e := hx.int_inv
    exact still hR h (.int _ _) (Runs.mk fun o' ho' => by simp [execOp, ho', e, Op.unary, Op.intArith])
  · have e := hx.int_inv
    exact still hR h (.int _ _) (Runs.mk fun o' ho' => by simp [execOp, ho', e, Op.unary, Op.intBits, bin2])
  · exact h.elim

end Go.Am
end
section
namespace Go.Am
open Go

variable {O : Type} {unf : O → List (AO O)} {P : Program}

theorem extract_sound {κ : Ctx} {M : Mem O} {w : World} {S : Nat → Prop} (hR : Rep unf κ M w S) {a : Act} {x : Operand} {i : Nat} {v : AV} {K : AV → Mem O → Prop} (h : extractA v i M K) (hx : VRel κ v (a.eval x)) :
    ∃ cv, Done unf κ S w M.length K cv w ∧ Runs P a (.extract x i) w cv w := by
  cases v with
  | tup l =>
    obtain ⟨v, hv, h⟩ := getK_iff.1 h
    obtain ⟨hlt, rfl⟩ := List.getElem?_eq_some_iff.1 hv
    generalize hq : a.eval x = c at hx
    cases hx with
    | tup h1 h2 =>
      rename_i A
      have hA : i < A.size := by omega
      exact still hR h (h2 i hlt hA) (Runs.mk fun o' ho' => by simp [execOp, ho', hq, Instr.extract, hA])
  | _ => exact h.elim

theorem field_sound {κ : Ctx} {M : Mem O} {w : World} {S : Nat → Prop} (hR : Rep unf κ M w S) {a : Act} {t : TypeId} {x : Operand} {f : Nat} {v : AV} {K : AV → Mem O → Prop} (h : fieldA P t v f M K) (hx : VRel κ v (a.eval x)) :
    ∃ cv, Done unf κ S w M.length K cv w ∧ Runs P a (.field t x f) w cv w := by
  cases v with
  | agg cs =>
    obtain ⟨d, hd, h⟩ := descK_iff.1 h
    cases d with
    | struct fs =>
      cases hf : fs[f]? with
      | none => simp [hf] at h
      | some fl =>
        simp only [hf] at h
        generalize hq : a.eval x = c at hx
        cases hx with
        | agg h1 h2 h3 =>
          obtain ⟨v, cv, h, hv, hr⟩ := part_sound h h1 h2 h3 w
          exact still hR h hv (Runs.mk fun o' ho' => by simp [execOp, ho', hq, Instr.field, run_und hd, hf, asAgg, hr])
    | _ => exact h.elim
  | _ => exact h.elim

theorem run_fieldPlace {f : Field} {i : TypeInfo} (hi : P.info? f.type = some i) (hn : i.size ≠ 0) (g o : Nat) (w : World) : (fieldPlace ⟨g, o, none⟩ f).run P w = .ok ⟨g, o + f.offset, none⟩ w := by
  simp [fieldPlace, run_size hi, hn, addr_add]

theorem fieldAddr_sound {κ : Ctx} {M : Mem O} {w : World} {S : Nat → Prop} (hR : Rep unf κ M w S) {a : Act} {t : TypeId} {x : Operand} {f : Nat} {v : AV} {K : AV → Mem O → Prop} (h : fieldAddrA P t v f M K) (hx : VRel κ v (a.eval x)) :
    ∃ cv, Done unf κ S w M.length K cv w ∧ Runs P a (.fieldAddr t x f) w cv w := by
  obtain ⟨d, hd, h⟩ := descK_iff.1 h
  cases d with
  | struct fs =>
    cases hf : fs[f]? with
    | none => simp [hf] at h
    | some fl =>
      simp only [hf] at h
      obtain ⟨i, hi, h⟩ := sizeK_iff.1 h
      obtain ⟨hn, h⟩ := payK_iff.1 h
      simp at hn
      cases v with
      | ptr id off =>
        obtain ⟨L, hL, hq⟩ := hx.ptr_inv
        refine still hR h (.ptr hL) (Runs.mk fun o' ho' => ?_)
        simp [execOp, ho', hq, Instr.fieldAt, run_und hd, hf, Instr.sureAddr, run_fieldPlace hi hn, Nat.add_assoc]
      | pv cs =>
        obtain ⟨hle, h⟩ := dropK_iff.1 h
        generalize hq : a.eval x = c at hx
        cases hx with
        | pv g h1 h2 h3 =>
          rename_i b off A
          refine still hR h (.pv (off := off + fl.offset) (fun j => g (fl.offset + j)) h1 (fun j hj => ?_) (fun j hj => ?_)) (Runs.mk fun o' ho' => ?_)
          · simp at hj; rw [Nat.add_assoc]; exact h2 _ (by omega)
          · simp at hj; simpa using h3 (fl.offset + j) (by omega)
          · simp [execOp, ho', hq, Instr.fieldAt, run_und hd, hf, Instr.sureAddr, run_fieldPlace hi hn]
      | _ => exact h.elim
  | _ => exact h.elim

theorem run_asIntOf {k : IntKind} {n : Int} (w : World) : (asIntOf (.int k n)).run P w = .ok (k, n) w := rfl

theorem numK_sound {κ : Ctx} {R : IntKind → Int → Prop} {v : AV} {cv : Value} (h : numK R v) (hv : VRel κ v cv) : ∃ k n, cv = .int k n ∧ R k n := by
  cases v with
  | int k n => exact ⟨k, n, hv.int_inv, h⟩
  | _ => exact h.elim

theorem indexAddr_sound {κ : Ctx} {M : Mem O} {w : World} {S : Nat → Prop} (hR : Rep unf κ M w S) {a : Act} {t : TypeId} {x y : Operand} {v n : AV} {K : AV → Mem O → Prop} (h : indexAddrA P t v n M K) (hx : VRel κ v (a.eval x)) (hy : VRel κ n (a.eval y)) :
    ∃ cv, Done unf κ S w M.length K cv w ∧ Runs P a (.indexAddr t x y) w cv w := by
  obtain ⟨k, i, hi, h⟩ := numK_sound h hy
  obtain ⟨d, hd, h⟩ := descK_iff.1 h
  split at h
  · rename_i len el id off
    obtain ⟨hb, h⟩ := payK_iff.1 h
    simp at hb
    obtain ⟨j, hj, h⟩ := sizeK_iff.1 h
    obtain ⟨L, hL, hq⟩ := hx.ptr_inv
    refine still hR h (.ptr hL) (Runs.mk fun o' ho' => ?_)
    simp [execOp, ho', hq, hi, Instr.indexAt, run_und hd, Instr.sureAddr, run_asIntOf, hb, run_size hj, addr_add, Nat.add_assoc]
  · rename_i el id off len cap _ _
    obtain ⟨hb, h⟩ := payK_iff.1 h
    simp at hb
    obtain ⟨j, hj, h⟩ := sizeK_iff.1 h
    obtain ⟨L, q, c, hL, h1, h2, h3, _, _, h4, _⟩ := hx.sl_inv
    have hq : q = ⟨L.blk, L.base + off, none⟩ := by
      obtain ⟨qb, qo, qs⟩ := q
      simp only at h1 h2 h4
      subst h1 h2
      have : qo = L.base + off := by
        by_cases h0 : L.ek = none
        · generalize hqq : a.eval x = cc at hx
          cases hx with
          | sl _ g1 g2 => rw [hL] at g1; cases g1; rw [h3] at hqq; cases hqq; rfl
          | slz g1 g2 => simp at hb; omega
          | slr _ g1 g2 => rw [hL] at g1; cases g1; rw [h0] at g2; cases g2
        · exact h4 (.inr h0)
      rw [this]
    rw [hq] at h3
    refine still hR h (.ptr hL) (Runs.mk fun o' ho' => ?_)
    simp [execOp, ho', h3, hi, Instr.indexAt, run_und hd, run_asIntOf, hb, run_size hj, addr_add, Nat.add_assoc]
  · rename_i el cs len _ _
    obtain ⟨hb, h⟩ := payK_iff.1 h
    simp at hb
    obtain ⟨j, hj, h⟩ := sizeK_iff.1 h
    obtain ⟨hle, h⟩ := dropK_iff.1 h
    generalize hq : a.eval x = c at hx
    cases hx with
    | vs g h0 h1 h2 h3 =>
      rename_i b off c A
      refine still hR h (.pv (off := off + i.toNat * j.size) (fun m => g (i.toNat * j.size + m)) h1 (fun m hm => ?_) (fun m hm => ?_)) (Runs.mk fun o' ho' => ?_)
      · simp at hm; rw [Nat.add_assoc]; exact h2 _ (by omega)
      · simp at hm; simpa using h3 (i.toNat * j.size + m) (by omega)
      · simp [execOp, ho', hq, hi, Instr.indexAt, run_und hd, run_asIntOf, hb, run_size hj, addr_add]
    | vs0 => omega
  · exact h.elim

theorem index_sound {κ : Ctx} {M : Mem O} {w : World} {S : Nat → Prop} (hR : Rep unf κ M w S) {a : Act} {t : TypeId} {x y : Operand} {v n : AV} {K : AV → Mem O → Prop} (h : indexA P t v n M K) (hx : VRel κ v (a.eval x)) (hy : VRel κ n (a.eval y)) :
    ∃ cv, Done unf κ S w M.length K cv w ∧ Runs P a (.index t x y) w cv w := by
  obtain ⟨k, i, hi, h⟩ := numK_sound h hy
  obtain ⟨d, hd, h⟩ := descK_iff.1 h
  split at h
  · rename_i len el cs
    obtain ⟨hb, h⟩ := payK_iff.1 h
    simp at hb
    obtain ⟨j, hj, h⟩ := sizeK_iff.1 h
    generalize hq : a.eval x = c at hx
    cases hx with
    | agg h1 h2 h3 =>
      obtain ⟨v, cv, h, hv, hr⟩ := part_sound h h1 h2 h3 w
      exact still hR h hv (Runs.mk fun o' ho' => by simp [execOp, ho', hq, hi, Instr.index, run_und hd, run_asIntOf, hb, run_size hj, hr])
  · rename_i s _ _
    obtain ⟨hb, h⟩ := payK_iff.1 h
    simp at hb
    obtain ⟨b, hq, hs⟩ := hx.str_inv
    have hlt : i.toNat < b.size := by
      have : s.length = b.size := by rw [← hs]; simp
      omega
    have hg : b[i.toNat]? = some (s.getD i.toNat 0) := by
      rw [← hs]
      have h1 : b[i.toNat]? = some b[i.toNat] := getElem?_pos b i.toNat hlt
      rw [h1]
      have h2 : i.toNat < b.data.toList.length := by simpa using hlt
      rw [List.getD_eq_getElem?_getD, List.getElem?_eq_getElem h2]
      simp
      rfl
    exact still hR h (.int _ _) (Runs.mk fun o' ho' => by simp [execOp, ho', hq, hi, Instr.index, run_und hd, run_asIntOf, hb, hg])
  · exact h.elim

end Go.Am
end
section
namespace Go.Am
open Go

variable {O : Type} {unf : O → List (AO O)} {P : Program}

/-- what a slice shows is there to be read -/
theorem show_sound {κ : Ctx} {M : Mem O} {w : World} {S : Nat → Prop} (hR : Rep unf κ M w S) {n : Nat} {R : List AV → Prop} {x : AV} {cv : Value} (h : showK M n R x) (hx : VRel κ x cv) :
    ∃ (cs : List AV) (q : Option Addr) (len c : Nat) (vals : List Value), R cs ∧ cv = .slice q len c ∧ cs.length = len * n ∧ (q = none → cs = []) ∧ vals.length = cs.length ∧ (∀ v, v ∈ vals → one v) ∧ (∀ i (h : i < cs.length) (h' : i < vals.length), VRel κ cs[i] vals[i]) ∧
      ∀ a m, q = some a → m ≤ len * n → ∀ w' : World, w'.heap = w.heap → (loadCells a m).run P w' = .ok (vals.take m).toArray w' := by
  cases x with
  | nilS => exact ⟨[], none, 0, 0, [], h, hx.nilS_inv, by simp, fun _ => rfl, rfl, by simp, by simp, fun a m e => by cases e⟩
  | sl id off len cap =>
    obtain ⟨ob, hM, h⟩ := getK_iff.1 h
    cases ob with
    | dead => exact h.elim
    | obj o => exact h.elim
    | cells ek cs =>
      obtain ⟨hle, hh⟩ := payK_iff.1 h
      simp at hle
      obtain ⟨L, A, t, fz, hL, hek, _, hA, hp, hc, _⟩ := hR.cells hM
      have hlen : (sub cs off (len * n)).length = len * n := by simp [sub]; omega
      obtain ⟨f, hf⟩ := exists_fun hc
      generalize hq : cv = c at hx
      have key : ∀ (o : Nat), (0 < len * n → o = L.base + off) → ∃ vals : List Value, vals.length = (sub cs off (len * n)).length ∧ (∀ v, v ∈ vals → one v) ∧ (∀ i (h : i < (sub cs off (len * n)).length) (h' : i < vals.length), VRel κ (sub cs off (len * n))[i] vals[i]) ∧
          ∀ a m, (some (⟨L.blk, o, none⟩ : Addr)) = some a → m ≤ len * n → ∀ w' : World, w'.heap = w.heap → (loadCells a m).run P w' = .ok (vals.take m).toArray w' := by
        intro o ho
        refine ⟨(List.range (len * n)).map fun i => f (off + i), by simp [hlen], fun v hv => ?_, fun i h1 h2 => ?_, fun a m ha hm w' hw => ?_⟩
        · simp at hv
          obtain ⟨i, hi, rfl⟩ := hv
          exact hp.1 _ (Array.mem_of_getElem? (hf (off + i) (by omega)).1)
        · rw [hlen] at h1
          simp only [sub, List.getElem_take, List.getElem_drop, List.getElem_map, List.getElem_range]
          exact (hf (off + i) (by omega)).2
        · cases ha
          by_cases h0 : 0 < m
          · rw [ho (by omega)]
            have e : ((List.range (len * n)).map fun i => f (off + i)).take m = (List.range m).map fun i => f (off + i) := by
              rw [← List.map_take, List.take_range, Nat.min_eq_left hm]
            rw [e]
            exact run_loadCells' P (hw ▸ hA) _ fun j hj => by rw [Nat.add_assoc]; exact (hf (off + j) (by omega)).1
          · obtain rfl : m = 0 := by omega
            rfl
      cases hx with
      | sl _ g1 g2 =>
        rw [hL] at g1; cases g1
        obtain ⟨vals, k1, k2, k3, k4⟩ := key _ (fun _ => rfl)
        exact ⟨_, _, _, _, vals, hh, rfl, hlen, (fun e => by cases e), k1, k2, k3, k4⟩
      | @slz _ _ _ o g1 g2 =>
        rw [hL] at g1; cases g1
        obtain ⟨vals, k1, k2, k3, k4⟩ := key o (fun h => by simp at h)
        exact ⟨_, _, _, _, vals, hh, rfl, hlen, (fun e => by cases e), k1, k2, k3, k4⟩
      | slr _ g1 g2 =>
        rw [hL] at g1; cases g1
        obtain ⟨vals, k1, k2, k3, k4⟩ := key _ (fun _ => rfl)
        exact ⟨_, _, _, _, vals, hh, rfl, hlen, (fun e => by cases e), k1, k2, k3, k4⟩
  | vs cs len =>
    obtain ⟨hl, hh⟩ := payK_iff.1 h
    simp at hl
    generalize hq : cv = c at hx
    cases hx with
    | vs g h0 h1 h2 h3 =>
      rename_i b off c A
      obtain ⟨_, t, fz, hA, ho⟩ := hR.imm _ _ h1
      refine ⟨cs, _, _, _, (List.range cs.length).map g, hh, rfl, hl, (fun e => by cases e), by simp, fun v hv => ?_, fun i k1 k2 => ?_, fun a m ha hm w' hw => ?_⟩
      · simp at hv
        obtain ⟨i, hi, rfl⟩ := hv
        exact (h2 i hi).2
      · simpa using h3 i k1
      · cases ha
        have e : ((List.range cs.length).map g).take m = (List.range m).map g := by
          rw [← List.map_take, List.take_range, Nat.min_eq_left (by omega)]
        rw [e]
        exact run_loadCells' P (hw ▸ hA) _ fun j hj => (h2 j (by omega)).1
    | @vs0 q c =>
      exact ⟨[], q, 0, c, [], hh, rfl, by simp, fun _ => rfl, rfl, by simp, by simp, fun a m _ hm w' _ => by simp at hm; subst hm; rfl⟩
  | _ => exact h.elim

theorem isB_inv {v : AV} (h : v.isB = true) : ∃ n, v = .int .u8 n := by
  unfold AV.isB at h
  split at h
  · exact ⟨_, rfl⟩
  · cases h

theorem foldl_push (l : List Int) : ∀ (s : ByteArray), (l.foldl (fun r n => r.push (UInt8.ofNat n.toNat)) s).data.toList = s.data.toList ++ l.map fun n => UInt8.ofNat n.toNat := by
  induction l with
  | nil => intro s; simp
  | cons n r ih =>
    intro s
    simp only [List.foldl_cons, List.map_cons]
    rw [ih]
    simp [ByteArray.push]

theorem bytes_str_sound {κ : Ctx} {w : World} {cs : List AV} {vals : List Value} (hl : vals.length = cs.length) (hc : ∀ i (h : i < cs.length) (h' : i < vals.length), VRel κ cs[i] vals[i]) (hb : cs.all AV.isB = true) {q : Option Addr} {len c : Nat}
    (hq : q = none → cs = []) (hlen : cs.length = len * 1) (hr : ∀ a m, q = some a → m ≤ len * 1 → (loadCells a m).run P w = .ok (vals.take m).toArray w) :
    ∃ s : ByteArray, (Conv.bytesToString (.slice q len c)).run P w = .ok (.string s) w ∧ s.data.toList = decB cs := by
  simp only [List.all_eq_true] at hb
  have hns : ∃ ns : List Int, vals = ns.map (Value.int .u8) ∧ decB cs = ns.map fun n => UInt8.ofNat n.toNat := by
    clear hq hr hlen
    induction cs generalizing vals with
    | nil =>
      obtain rfl : vals = [] := List.length_eq_zero_iff.1 (by simpa using hl)
      exact ⟨[], rfl, rfl⟩
    | cons c cs ih =>
      cases vals with
      | nil => simp at hl
      | cons v vals =>
        obtain ⟨ns, h1, h2⟩ := ih (by simpa using hl) (fun i a b => hc (i + 1) (by simpa using a) (by simpa using b)) (fun x hx => hb x (by simp [hx]))
        obtain ⟨n, rfl⟩ := isB_inv (hb c (by simp))
        have := (hc 0 (by simp) (by simp)).int_inv
        simp at this
        subst this
        exact ⟨n :: ns, by simp [h1], by simp [decB, AV.byte] at h2 ⊢; exact h2⟩
  obtain ⟨ns, rfl, h2⟩ := hns
  cases q with
  | none =>
    refine ⟨.empty, by simp [Conv.bytesToString], ?_⟩
    rw [hq rfl]; rfl
  | some a =>
    refine ⟨_, run_bytesToString w a len c ns (by have := hr a len rfl (by simp); rwa [List.take_of_length_le (by omega)] at this), ?_⟩
    rw [foldl_push, h2]
    simp

theorem run_stringToBytes (el : TypeId) (s : ByteArray) (w : World) : ∃ w' A fz c, (Conv.stringToBytes el s).run P w = .ok (.slice (some ⟨w.heap.size, 0, none⟩) s.size c) w' ∧ w'.heap = w.heap.push (.cells A el fz) ∧ (w'.tape = w.tape ∧ w'.os = w.os ∧ w'.output = w.output) ∧
    Plain A fz ∧ A.size = c ∧ s.size ≤ c ∧ ∀ i (h : i < s.size), A[i]? = some (.int .u8 (s[i]).toNat) := by
  let c := (Question.appendCap s.size 0 el).cut (w.tape w.drawn (.appendCap s.size 0 el))
  have hc : s.size ≤ c := by simp only [c, Question.cut]; omega
  let A : Array Value := (s.data.map fun b => Value.int .u8 b.toNat) ++ Array.replicate (c - s.size) (.int .u8 0)
  have hs : A.size = c := by
    have : s.data.size = s.size := rfl
    simp [A, this]; omega
  refine ⟨{ w with heap := w.heap.push (.cells A el (A.size, A.size + 1)), drawn := w.drawn + 1 }, A, (A.size, A.size + 1), c, ?_, rfl, ⟨rfl, rfl, rfl⟩, ⟨fun v hv => ?_, fun i hi h => by simp at h; omega⟩, hs, hc, fun i h => ?_⟩
  · unfold Conv.stringToBytes
    simp only [Sem.run_bind, run_choose]
    rw [if_neg (by simp [Question.forced])]
    have e1 : ({ w with heap := w.heap.push (.cells A el (0, 0)), drawn := w.drawn + 1 } : World).shape? w.heap.size = some (el, A.size) := by simp [World.shape?]
    have e2 : ({ w with heap := w.heap.push (.cells A el (0, 0)), drawn := w.drawn + 1 } : World).freeze ⟨w.heap.size, A.size, none⟩ 1 = { w with heap := w.heap.push (.cells A el (A.size, A.size + 1)), drawn := w.drawn + 1 } := by
      simp only [World.freeze, Nat.one_ne_zero, if_false]
      congr 1
      apply Array.ext_getElem?
      intro k
      simp only [Array.getElem?_modify, Array.getElem?_push]
      by_cases hk : k = w.heap.size
      · subst hk; simp
      · simp [hk, Ne.symm hk]
    have e3 : (markStringish ⟨w.heap.size, 0, none⟩).run P { w with heap := w.heap.push (.cells A el (0, 0)), drawn := w.drawn + 1 } = .ok () { w with heap := w.heap.push (.cells A el (A.size, A.size + 1)), drawn := w.drawn + 1 } := by
      unfold markStringish
      simp only [Sem.run_bind, run_shape, e1, Result.andThen_ok, run_freeze, e2]
    simp only [Result.andThen_ok, run_newRow]
    show ((markStringish ⟨w.heap.size, 0, none⟩).run P { w with heap := w.heap.push (.cells A el (0, 0)), drawn := w.drawn + 1 }).andThen _ = _
    rw [e3]
    rfl
  · simp [A] at hv
    rcases hv with ⟨b, _, rfl⟩ | ⟨_, rfl⟩ <;> rfl
  · have h' : i < s.data.size := h
    simp only [A]
    rw [Array.getElem?_append_left (by simpa using h')]
    simp only [Array.getElem?_map, Array.getElem?_eq_getElem h', Option.map_some]
    rfl

end Go.Am
end
section
namespace Go.Am
open Go

variable {O : Type} {unf : O → List (AO O)} {P : Program}

theorem conv_sound {κ : Ctx} {M : Mem O} {w : World} {S : Nat → Prop} (hR : Rep unf κ M w S) {a : Act} {s d : TypeId} {x : Operand} {v : AV} {K : AV → Mem O → Prop} (h : convA P s d v M K) (hx : VRel κ v (a.eval x)) :
    ∃ cv w', Done unf κ S w M.length K cv w' ∧ Runs P a (.convert s d x) w cv w' := by
  obtain ⟨ds, hs, h⟩ := descK_iff.1 h
  obtain ⟨dd, hd, h⟩ := descK_iff.1 h
  split at h
  · have e := hx.int_inv
    exact ⟨_, w, Done.pure h hR (.int _ _), Runs.mk fun o' ho' => by simp [execOp, ho', e, convert, run_und hs, run_und hd, Conv.intToInt]⟩
  · obtain ⟨b, e, rfl⟩ := hx.str_inv
    exact ⟨_, w, Done.pure h hR (.str b), Runs.mk fun o' ho' => by simp [execOp, ho', e, convert, run_und hs, run_und hd]⟩
  · obtain ⟨b, e, rfl⟩ := hx.str_inv
    obtain ⟨de, hde, h⟩ := descK_iff.1 h
    split at h
    · have h := appK_one h
      rename_i el _ _ _ _ _
      obtain ⟨w', A, fz, c, hr, hh, hrest, hp, hsz, hle, hA⟩ := run_stringToBytes (P := P) _ b w
      obtain ⟨κ', S', hR', hk, hP, hat⟩ := hR.alloc hh hrest hp (some 1) (encB b.data.toList) (fun i hi => by
        have hi' : i < b.size := by simpa [encB] using hi
        refine ⟨_, hA i hi', ?_⟩
        have : (encB b.data.toList)[i] = .int .u8 ((b[i]).toNat : Int) := by simp [encB]; rfl
        rw [this]
        exact .int _ _)
      refine ⟨.slice (some ⟨w.heap.size, 0, none⟩) b.size c, w', ⟨κ', S', _, _, h, hR', ?_, hk, hP, by simp⟩, Runs.mk fun o' ho' => ?_⟩
      · have : b.data.toList.length = b.size := by simp
        rw [this]
        exact .slr (L := ⟨w.heap.size, 0, some 1, A.size⟩) (Nat.le_refl _) hat rfl hle (by simp; omega)
      · simp [execOp, ho', e, convert, run_und hs, run_und hd, run_und hde]
        rw [hr]; rfl
    · exact h.elim
  · obtain ⟨de, hde, h⟩ := descK_iff.1 h
    split at h
    · obtain ⟨cs, q, len, c, vals, h, hq, hl, hqn, hvl, ho, hc, hr⟩ := show_sound (P := P) hR h hx
      obtain ⟨hb, h⟩ := payK_iff.1 h
      obtain ⟨b, hrun, hdec⟩ := bytes_str_sound (P := P) (w := w) (c := c) hvl hc hb hqn hl (fun a m h1 h2 => hr a m h1 h2 w rfl)
      refine ⟨.string b, w, Done.pure h hR (.str' hdec), Runs.mk fun o' ho' => ?_⟩
      simp only [execOp, ho', hq, Sem.run_bind]
      rw [run_convert_bytes_string w _ _ _ q len c hs hde hd, hrun]
      rfl
    · exact h.elim
  · obtain ⟨i, hi, h⟩ := infoK_iff.1 h
    obtain ⟨hsz, h⟩ := payK_iff.1 h
    obtain ⟨g, o, A, t', fz, cs, hp, h, hA, ho, hc⟩ := atK_sound hR h hx
    cases cs with
    | nil => exact h.elim
    | cons v0 r =>
      obtain ⟨v, hv1, hv2⟩ := hc 0 (by simp)
      have hcell : w.cell? ⟨g, o, none⟩ = some v := by rw [cell_of hA]; exact hv1
      refine ⟨_, w, Done.pure h hR hx, Runs.mk fun o' ho' => ?_⟩
      have := run_convert_to_unsafe (P := P) hs hd (by rw [hi]; simpa using hsz) hcell
      simp only [execOp, ho', hp, Sem.run_bind, this]
      rfl
  · exact h.elim

theorem boundK_sound {κ : Ctx} {e : Env} {a : Act} (hE : VRelL κ e a.tmps) {m : Nat} {R : Nat → Prop} {x : Operand} (h : boundK e m R x) : ∃ k n, a.eval x = .int k n ∧ 0 ≤ n ∧ n ≤ (m : Int) ∧ R n.toNat := by
  obtain ⟨v, h, hv⟩ := evK_sound hE h
  obtain ⟨k, n, hn, h⟩ := numK_sound h hv
  obtain ⟨hb, h⟩ := payK_iff.1 h
  simp at hb
  exact ⟨k, n, hn, hb.1, hb.2, h⟩

theorem run_sliceBound {v : Value} {k : IntKind} {n : Int} {m : Nat} (hv : v = .int k n) (h0 : 0 ≤ n) (h1 : n ≤ (m : Int)) (code : BoundsCode) (w : World) : (Instr.sliceBound v m code).run P w = .ok n.toNat w := by
  subst hv
  simp [Instr.sliceBound, run_asIntOf, h0, h1]

theorem bounds_sound {κ : Ctx} {e : Env} {a : Act} (hE : VRelL κ e a.tmps) {len cap C : Nat} (hC : cap ≤ C) (hl : len ≤ cap) {R : Nat → Nat → Nat → Prop} {lo hi mx : Option Operand} (h : boundsK e len cap R lo hi mx) (isS : Bool) (w : World) :
    ∃ l h m, R l h m ∧ l ≤ h ∧ h ≤ m ∧ m ≤ cap ∧ (mx = none → m = cap) ∧ (Instr.sliceBounds isS len C (lo.map a.eval) (hi.map a.eval) (mx.map a.eval)).run P w = .ok (l, h, if mx.isNone then C else m) w := by
  have low : ∀ (hh m : Nat), lowK e lo R hh m → ∃ l, R l hh m ∧ l ≤ hh ∧ ∀ code, (match lo.map a.eval with | some v => Instr.sliceBound v hh code | none => pure 0 : Sem Nat).run P w = .ok l w := by
    intro hh m h
    cases lo with
    | none => exact ⟨0, h, Nat.zero_le _, fun _ => rfl⟩
    | some x =>
      simp only [lowK] at h
      obtain ⟨k, n, hn, h0, h1, h⟩ := boundK_sound hE h
      exact ⟨n.toNat, h, by omega, fun code => run_sliceBound hn h0 h1 code w⟩
  unfold boundsK at h
  cases mx with
  | some x =>
    simp only at h
    obtain ⟨k, n, hn, h0, h1, h⟩ := boundK_sound hE h
    cases hi with
    | none => exact h.elim
    | some y =>
      obtain ⟨k', n', hn', h0', h1', h⟩ := boundK_sound hE h
      obtain ⟨l, hR, hle, hrun⟩ := low _ _ h
      refine ⟨l, n'.toNat, n.toNat, hR, hle, by omega, by omega, by simp, ?_⟩
      unfold Instr.sliceBounds
      simp only [Option.map_some, Sem.run_bind, run_sliceBound hn h0 (show n ≤ (C : Int) by omega), Result.andThen_ok, run_sliceBound hn' h0' (show n' ≤ (n.toNat : Int) by omega)]
      have := hrun (if (some (a.eval x)).isSome then .slice3C else .sliceB)
      cases lo with
      | none => simp at this ⊢; exact this
      | some z =>
        simp only [Option.map_some, Sem.run_bind] at this ⊢
        rw [this]
        rfl
  | none =>
    simp only at h
    cases hi with
    | none =>
      obtain ⟨l, hR, hle, hrun⟩ := low _ _ h
      refine ⟨l, len, cap, hR, hle, hl, Nat.le_refl _, fun _ => rfl, ?_⟩
      unfold Instr.sliceBounds
      simp only [Option.map_none, Sem.run_bind, Sem.run_pure, Result.andThen_ok]
      have := hrun .sliceB
      cases lo with
      | none => simp at this ⊢; exact this
      | some z =>
        simp only [Option.map_some] at this ⊢
        simp only [Option.isSome_none, Bool.false_eq_true, if_false, Sem.run_bind]
        rw [this]
        rfl
    | some y =>
      obtain ⟨k', n', hn', h0', h1', h⟩ := boundK_sound hE h
      obtain ⟨l, hR, hle, hrun⟩ := low _ _ h
      refine ⟨l, n'.toNat, cap, hR, hle, by omega, Nat.le_refl _, fun _ => rfl, ?_⟩
      unfold Instr.sliceBounds
      simp only [Option.map_none, Option.map_some, Sem.run_bind, Sem.run_pure, Result.andThen_ok, run_sliceBound hn' h0' (show n' ≤ (C : Int) by omega)]
      have := hrun .sliceB
      cases lo with
      | none => simp at this ⊢; exact this
      | some z =>
        simp only [Option.map_some] at this ⊢
        simp only [Option.isSome_none, Bool.false_eq_true, if_false, Sem.run_bind]
        rw [this]
        rfl

theorem slice_sound {κ : Ctx} {M : Mem O} {w : World} {S : Nat → Prop} (hR : Rep unf κ M w S) {e : Env} {a : Act} (hE : VRelL κ e a.tmps) {t : TypeId} {x : Operand} {lo hi mx : Option Operand} {v : AV} {K : AV → Mem O → Prop} (h : sliceA P e t v lo hi mx M K) (hx : VRel κ v (a.eval x)) :
    ∃ cv, Done unf κ S w M.length K cv w ∧ Runs P a (.slice t x lo hi mx) w cv w := by
  obtain ⟨d, hd, h⟩ := descK_iff.1 h
  split at h
  · obtain ⟨b, hq, rfl⟩ := hx.str_inv
    cases mx with
    | some _ => exact h.elim
    | none =>
      have hbs : b.data.toList.length = b.size := by simp
      rw [hbs] at h
      obtain ⟨l, hh, m, h, h1, h2, h3, h4, hr⟩ := bounds_sound (P := P) hE (Nat.le_refl b.size) (Nat.le_refl _) h false w
      refine still hR h (cv := .string (b.extract l hh)) (.str' ?_) (Runs.mk fun o' ho' => ?_)
      · rw [ByteArray.data_extract, Array.toList_extract, List.extract_eq_take_drop, List.drop_take]
      · simp only [execOp, ho', hq, Instr.sliceAt, Sem.run_bind, run_und hd, Result.andThen_ok, Instr.slice, Option.map_none] at hr ⊢
        simp only [Option.isSome_none, Bool.false_eq_true, if_false, Sem.run_bind, hr, Result.andThen_ok, Sem.run_pure]
  · rename_i el id off len cap _
    generalize hq : a.eval x = c at hx
    have hlc : len ≤ cap := by
      obtain ⟨_, _, _, _, _, _, _, _, _, _, _, h0⟩ := hx.sl_inv
      exact h0
    cases hx with
    | @sl _ _ _ _ L h0 g1 g2 =>
      obtain ⟨l, hh, m, h, h1, h2, h3, h4, hr⟩ := bounds_sound (P := P) hE (Nat.le_refl cap) hlc h true w
      have hm : (if mx.isNone then cap else m) = m := by
        cases mx with
        | none => simp [h4 rfl]
        | some _ => rfl
      rw [hm] at hr
      obtain ⟨i, hsi, h⟩ := sizeK_iff.1 h
      obtain ⟨ob, hM, h⟩ := getK_iff.1 h
      have hex : ∃ cs, ob = .cells none cs := by
        cases ob with
        | dead => exact h.elim
        | obj _ => exact h.elim
        | cells ek cs =>
          obtain ⟨L', _, _, _, g3, g4, _⟩ := hR.cells hM
          rw [g1] at g3; cases g3
          rw [g2] at g4; subst g4
          exact ⟨cs, rfl⟩
      obtain ⟨cs, rfl⟩ := hex
      simp only at h
      have hrun : Runs P a (.slice t x lo hi mx) w (.slice (if m = l then some ⟨L.blk, L.base + off, none⟩ else some ⟨L.blk, L.base + off + l * i.size, none⟩) (hh - l) (m - l)) w := Runs.mk fun o' ho' => by
        simp only [execOp, ho', hq, Instr.sliceAt, Sem.run_bind, run_und hd, Result.andThen_ok, Instr.slice, hr, run_size hsi, Option.map_some, addr_add]
        rfl
      refine still hR h ?_ hrun
      by_cases hml : m = l
      · have e1 : hh - l = 0 := by omega
        have e2 : m - l = 0 := by omega
        rw [if_pos hml, e1, e2]
        exact .slz g1 g2
      · rw [if_neg hml, Nat.add_assoc]
        exact .sl (by omega) g1 g2
    | @slz _ _ L o g1 g2 =>
      obtain ⟨l, hh, m, h, h1, h2, h3, h4, hr⟩ := bounds_sound (P := P) hE (Nat.le_refl 0) (Nat.le_refl 0) h true w
      obtain rfl : m = 0 := by omega
      obtain rfl : hh = 0 := by omega
      obtain rfl : l = 0 := by omega
      rw [ite_self] at hr
      obtain ⟨i, hsi, h⟩ := sizeK_iff.1 h
      obtain ⟨ob, hM, h⟩ := getK_iff.1 h
      have hex : ∃ cs, ob = .cells none cs := by
        cases ob with
        | dead => exact h.elim
        | obj _ => exact h.elim
        | cells ek cs =>
          obtain ⟨L', _, _, _, g3, g4, _⟩ := hR.cells hM
          rw [g1] at g3; cases g3
          rw [g2] at g4; subst g4
          exact ⟨cs, rfl⟩
      obtain ⟨cs, rfl⟩ := hex
      simp only at h
      refine still hR h (.slz (o := o) g1 g2) (Runs.mk fun o' ho' => ?_)
      simp only [execOp, ho', hq, Instr.sliceAt, Sem.run_bind, run_und hd, Result.andThen_ok, Instr.slice, hr, run_size hsi]
      rfl
    | @slr _ _ _ _ L z c h0 g1 g2 g3 g4 =>
      obtain ⟨l, hh, m, h, h1, h2, h3, h4, hr⟩ := bounds_sound (P := P) hE g3 hlc h true w
      obtain ⟨m', hm', hmm⟩ : ∃ m', (if mx.isNone then c else m) = m' ∧ m ≤ m' ∧ m' ≤ c := by
        cases mx with
        | none => exact ⟨c, rfl, by omega, Nat.le_refl _⟩
        | some _ => exact ⟨m, rfl, Nat.le_refl _, by omega⟩
      rw [hm'] at hr
      obtain ⟨i, hsi, h⟩ := sizeK_iff.1 h
      obtain ⟨ob, hM, h⟩ := getK_iff.1 h
      have hex : ∃ cs, ob = .cells (some z) cs := by
        cases ob with
        | dead => exact h.elim
        | obj _ => exact h.elim
        | cells ek cs =>
          obtain ⟨L', _, _, _, g5, g6, _⟩ := hR.cells hM
          rw [g1] at g5; cases g5
          rw [g2] at g6; subst g6
          exact ⟨cs, rfl⟩
      obtain ⟨cs, rfl⟩ := hex
      simp only at h
      obtain ⟨hz, h⟩ := payK_iff.1 h
      simp at hz
      have hrun : Runs P a (.slice t x lo hi mx) w (.slice (if m' = l then some ⟨L.blk, L.base + off, none⟩ else some ⟨L.blk, L.base + off + l * i.size, none⟩) (hh - l) (m' - l)) w := Runs.mk fun o' ho' => by
        simp only [execOp, ho', hq, Instr.sliceAt, Sem.run_bind, run_und hd, Result.andThen_ok, Instr.slice, hr, run_size hsi, Option.map_some, addr_add]
        rfl
      rw [testK_iff] at h
      by_cases hml : m = l
      · have h := h.1 (by simpa using hml)
        refine still hR h ?_ hrun
        have e1 : hh - l = 0 := by omega
        rw [e1]
        exact .vs0
      · have h := h.2 (by simpa using hml)
        refine still hR h ?_ hrun
        rw [if_neg (by omega), Nat.add_assoc]
        refine .slr (by omega) g1 g2 (by omega) ?_
        rw [← hz]
        have e1 : l * z + (m' - l) * z = m' * z := by rw [← Nat.add_mul]; congr 1; omega
        have e2 : m' * z ≤ c * z := Nat.mul_le_mul_right _ hmm.2
        omega
  · rename_i el cs len _
    cases mx with
    | some _ => exact h.elim
    | none =>
      generalize hq : a.eval x = c at hx
      cases hx with
      | @vs _ _ b off c A f h0 g1 g2 g3 =>
        obtain ⟨l, hh, m, h, h1, h2, h3, h4, hr⟩ := bounds_sound (P := P) hE h0 (Nat.le_refl _) h true w
        have := h4 rfl
        subst this
        obtain ⟨i, hsi, h⟩ := sizeK_iff.1 h
        obtain ⟨hz, h⟩ := payK_iff.1 h
        simp at hz
        simp only [Option.isNone_none, if_true] at hr
        have hrun : Runs P a (.slice t x lo hi none) w (.slice (if c = l then some ⟨b, off, none⟩ else some ⟨b, off + l * i.size, none⟩) (hh - l) (c - l)) w := Runs.mk fun o' ho' => by
          simp only [execOp, ho', hq, Instr.sliceAt, Sem.run_bind, run_und hd, Result.andThen_ok, Instr.slice, hr, run_size hsi, Option.map_some, Option.map_none, addr_add] at hr ⊢
          rfl
        rw [testK_iff] at h
        by_cases hhl : hh = l
        · have h := h.1 (by simpa using hhl)
          refine still hR h ?_ hrun
          have e1 : hh - l = 0 := by omega
          rw [e1]
          exact .vs0
        · have h := h.2 (by simpa using hhl)
          refine still hR h ?_ hrun
          rw [if_neg (by omega)]
          have e1 : l * i.size + (hh - l) * i.size = hh * i.size := by rw [← Nat.add_mul]; congr 1; omega
          have e2 : hh * i.size ≤ m * i.size := Nat.mul_le_mul_right _ h2
          refine .vs (fun j => f (l * i.size + j)) (by omega) g1 (fun j hj => ?_) (fun j hj => ?_)
          · simp [sub] at hj
            rw [Nat.add_assoc]; exact g2 _ (by omega)
          · simp [sub] at hj
            simpa [sub] using g3 (l * i.size + j) (by omega)
      | @vs0 q c =>
        obtain ⟨l, hh, m, h, h1, h2, h3, h4, hr⟩ := bounds_sound (P := P) hE (Nat.zero_le c) (Nat.le_refl _) h true w
        have := h4 rfl
        subst this
        obtain rfl : hh = 0 := by omega
        obtain rfl : l = 0 := by omega
        obtain ⟨i, hsi, h⟩ := sizeK_iff.1 h
        obtain ⟨hz, h⟩ := payK_iff.1 h
        rw [testK_iff] at h
        have h := h.1 (by simp)
        simp only [Option.isNone_none, if_true] at hr
        refine still hR h (.vs0 (a := if c = 0 then q else q.map (·.add (0 * i.size))) (c := c - 0)) (Runs.mk fun o' ho' => ?_)
        simp only [execOp, ho', hq, Instr.sliceAt, Sem.run_bind, run_und hd, Result.andThen_ok, Instr.slice, hr, run_size hsi, Option.map_none] at hr ⊢
        rfl
  · have hq := hx.nilS_inv
    obtain ⟨l, hh, m, h, h1, h2, h3, h4, hr⟩ := bounds_sound (P := P) hE (Nat.le_refl 0) (Nat.le_refl 0) h true w
    obtain rfl : m = 0 := by omega
    obtain rfl : hh = 0 := by omega
    obtain rfl : l = 0 := by omega
    rw [ite_self] at hr
    obtain ⟨i, hsi, h⟩ := sizeK_iff.1 h
    refine still hR h .nilS (Runs.mk fun o' ho' => ?_)
    simp only [execOp, ho', hq, Instr.sliceAt, Sem.run_bind, run_und hd, Result.andThen_ok, Instr.slice, hr, run_size hsi]
    rfl
  · rename_i n el id off _
    obtain ⟨L, hL, hq⟩ := hx.ptr_inv
    obtain ⟨l, hh, m, h, h1, h2, h3, h4, hr⟩ := bounds_sound (P := P) hE (Nat.le_refl n) (Nat.le_refl n) h false w
    have hm : (if mx.isNone then n else m) = m := by
      cases mx with
      | none => simp [h4 rfl]
      | some _ => rfl
    rw [hm] at hr
    obtain ⟨i, hsi, h⟩ := sizeK_iff.1 h
    obtain ⟨ob, hM, h⟩ := getK_iff.1 h
    cases ob with
    | dead => exact h.elim
    | obj _ => exact h.elim
    | cells ek cs =>
      obtain ⟨L', _, _, _, g3, g4, _⟩ := hR.cells hM
      rw [hL] at g3; cases g3
      cases ek with
      | some _ => exact h.elim
      | none =>
        simp only at h
        have hrun : Runs P a (.slice t x lo hi mx) w (.slice (some (if m = l then ⟨L.blk, L.base + off, none⟩ else ⟨L.blk, L.base + off + l * i.size, none⟩)) (hh - l) (m - l)) w := Runs.mk fun o' ho' => by
          simp only [execOp, ho', hq, Instr.sliceAt, Sem.run_bind, run_und hd, Result.andThen_ok, Instr.sureAddr, Sem.run_pure, hr, run_size hsi, addr_add]
        refine still hR h ?_ hrun
        by_cases hml : m = l
        · have e1 : hh - l = 0 := by omega
          have e2 : m - l = 0 := by omega
          rw [if_pos hml, e1, e2]
          exact .slz hL g4
        · rw [if_neg hml, Nat.add_assoc]
          exact .sl (by omega) hL g4
  · exact h.elim

end Go.Am
end
section
namespace Go.Am
open Go

variable {O : Type} {unf : O → List (AO O)} {P : Program}

theorem makeSlice_sound {κ : Ctx} {M : Mem O} {w : World} {S : Nat → Prop} (hR : Rep unf κ M w S) {a : Act} {t : TypeId} {x y : Operand} {l c : AV} {K : AV → Mem O → Prop} (h : makeSliceA P t l c M K) (hx : VRel κ l (a.eval x)) (hy : VRel κ c (a.eval y)) :
    ∃ cv w', Done unf κ S w M.length K cv w' ∧ Runs P a (.makeSlice t x y) w cv w' := by
  obtain ⟨kl, l, hl, h⟩ := numK_sound h hx
  obtain ⟨kc, c, hc, h⟩ := numK_sound h hy
  obtain ⟨d, hd, h⟩ := descK_iff.1 h
  cases d with
  | slice el =>
    dsimp only at h
    obtain ⟨i, hi, h⟩ := infoK_iff.1 h
    obtain ⟨hb, h⟩ := payK_iff.1 h
    simp at hb
    obtain ⟨⟨⟨hb1, hb2⟩, hb3⟩, hb4⟩ := hb
    obtain ⟨i', z, zs, hi', hz, h, hzl, ho, hzc⟩ := zeroK_sound (κ := κ) h
    rw [hi] at hi'; cases hi'
    obtain ⟨hzn, h⟩ := payK_iff.1 h
    simp at hzn
    have h := appK_one h
    obtain ⟨g1, g2, g3⟩ := zeros_rel hzl hzc ho c.toNat (sz := c.toNat * i.size) (by rw [← hzl, hzn])
    obtain ⟨κ', S', hR', hle, hP, hat⟩ := new_sound (ek := none) hR el g2 g1 g3
    refine ⟨.slice (some ⟨w.heap.size, 0, none⟩) l.toNat c.toNat, _, ⟨κ', S', _, _, h, hR', .sl (L := ⟨w.heap.size, 0, none, _⟩) (by omega) hat rfl, hle, hP, by simp⟩, Runs.mk fun o' ho' => ?_⟩
    have wl : IntKind.i64.wrap l = l := IntWalk.i64_in l (by omega)
    have wc : IntKind.i64.wrap c = c := IntWalk.i64_in c (by omega)
    have hp : (2 : Int) ^ 48 = 281474976710656 := by decide
    have e1 : (decide (c < 0) || decide ((i.bytes : Int) * c > 2 ^ 48) || decide (l < 0) || decide (l > c)) = false := by
      rw [hp]; simp; omega
    simp only [execOp, ho', hl, hc, Instr.makeSlice, Sem.run_bind, run_und hd, Result.andThen_ok, asInt, run_asIntOf, Sem.run_pure, run_info hi, wl, wc, e1]
    simp only [Bool.false_eq_true, if_false, Sem.run_bind, run_askRoom, Result.andThen_ok, run_size hi]
    by_cases h0 : c.toNat * i.size = 0
    · rw [if_pos h0]
      have e : (Array.range (c.toNat * i.size)).map ((#[] : Array Value)[· % (#[] : Array Value).size]!) = (Array.range (c.toNat * i.size)).map (z.cells[· % z.cells.size]!) := by simp [h0]
      simp only [Sem.run_bind, Sem.run_pure, Result.andThen_ok, e, run_newRow]
    · rw [if_neg h0]
      simp only [Sem.run_bind, run_zero hi hz, Sem.run_pure, Result.andThen_ok, run_newRow]
  | _ => exact h.elim

theorem lenK_sound {κ : Ctx} {R : Nat → Prop} {v : AV} {cv : Value} (h : lenK R v) (hv : VRel κ v cv) : ∃ n, R n ∧ ∀ w, (Builtin.lenOf cv).run P w = .ok n w := by
  cases v with
  | nilS => exact ⟨0, h, fun w => by rw [hv.nilS_inv]; rfl⟩
  | sl id off len cap =>
    obtain ⟨_, _, _, _, _, _, rfl, _⟩ := hv.sl_inv
    exact ⟨len, h, fun w => rfl⟩
  | vs cs n =>
    cases hv with
    | vs => exact ⟨n, h, fun w => rfl⟩
    | vs0 => exact ⟨0, h, fun w => rfl⟩
  | str s =>
    obtain ⟨b, rfl, rfl⟩ := hv.str_inv
    exact ⟨b.size, by have : b.data.toList.length = b.size := by simp
                      rw [← this]; exact h, fun w => rfl⟩
  | _ => exact h.elim

/-- the cells that are appended, or copied -/
theorem news_sound {κ : Ctx} {M : Mem O} {w : World} {S : Nat → Prop} (hR : Rep unf κ M w S) {inf : TypeInfo} {x : AV} {cv : Value} {R : List AV → Prop} (h : newsK M inf x R) (hx : VRel κ x cv) {n : Nat} (hn : (Builtin.lenOf cv).run P w = .ok n w) :
    ∃ (cs : List AV) (vals : List Value), R cs ∧ cs.length = n * inf.size ∧ vals.length = cs.length ∧ (∀ v, v ∈ vals → one v) ∧ (∀ i (h : i < cs.length) (h' : i < vals.length), VRel κ cs[i] vals[i]) ∧
      ∀ k, k ≤ n → ∀ w' : World, w'.heap = w.heap → (Builtin.firstCells inf.size k cv).run P w' = .ok (vals.take (k * inf.size)).toArray w' := by
  have key : ∀ (h : showK M inf.size R x) (hs : ∀ s, cv ≠ .string s), ∃ (cs : List AV) (vals : List Value), R cs ∧ cs.length = n * inf.size ∧ vals.length = cs.length ∧ (∀ v, v ∈ vals → one v) ∧ (∀ i (h : i < cs.length) (h' : i < vals.length), VRel κ cs[i] vals[i]) ∧
      ∀ k, k ≤ n → ∀ w' : World, w'.heap = w.heap → (Builtin.firstCells inf.size k cv).run P w' = .ok (vals.take (k * inf.size)).toArray w' := by
    intro h hs
    obtain ⟨cs, q, len, c, vals, h, rfl, hl, hqn, hvl, ho, hc, hr⟩ := show_sound (P := P) hR h hx
    have : n = len := by simp [Builtin.lenOf] at hn; exact hn.symm
    subst this
    refine ⟨cs, vals, h, hl, hvl, ho, hc, fun k hk w' hw => ?_⟩
    cases q with
    | none =>
      have := hqn rfl
      subst this
      obtain rfl : vals = [] := List.length_eq_zero_iff.1 (by simpa using hvl)
      simp [Builtin.firstCells]
    | some a =>
      simp only [Builtin.firstCells]
      exact hr a _ rfl (Nat.mul_le_mul_right _ hk) w' hw
  cases x with
  | str s =>
    obtain ⟨b, rfl, rfl⟩ := hx.str_inv
    obtain ⟨h1, h⟩ := payK_iff.1 h
    simp at h1
    have : n = b.size := by simp [Builtin.lenOf] at hn; exact hn.symm
    subst this
    refine ⟨encB b.data.toList, b.data.toList.map fun c => Value.int .u8 (c.toNat : Int), h, by simp [encB, h1], by simp [encB], fun v hv => ?_, fun i h2 h3 => ?_, fun k hk w' _ => ?_⟩
    · simp at hv
      obtain ⟨c, _, rfl⟩ := hv
      rfl
    · simp only [encB, List.getElem_map]
      exact .int _ _
    · have e : ((b.extract 0 k).data.map fun c => Value.int .u8 (c.toNat : Int)) = ((b.data.toList.map fun c => Value.int .u8 (c.toNat : Int)).take (k * inf.size)).toArray := by
        apply Array.toList_inj.1
        simp [h1, ← List.map_take, List.extract_eq_take_drop]
      simp only [Builtin.firstCells]
      rw [e]
      rfl
  | nilS => exact key h (by rw [hx.nilS_inv]; simp)
  | sl id off len cap => exact key h (by obtain ⟨_, _, _, _, _, _, rfl, _⟩ := hx.sl_inv; simp)
  | vs cs m => exact key h (by cases hx <;> simp)
  | _ => exact h.elim

end Go.Am
end
section
namespace Go.Am
open Go

variable {O : Type} {unf : O → List (AO O)} {P : Program}

/-- a row is appended to in place: the old object is given up, a new one lies where it lay -/
theorem Rep.regrow {κ : Ctx} {M : Mem O} {w : World} {S : Nat → Prop} (hR : Rep unf κ M w S) {id : Nat} {z : Nat} {cs : List AV} (hM : M[id]? = some (.cells (some z) cs)) {L : Loc} (hL : κ.at_ id = some L) {off : Nat} (hoff : off ≤ L.room)
    {A A' : Array Value} {t : TypeId} {fz : Nat × Nat} (hA : w.heap[L.blk]? = some (.cells A t fz)) (hp : Plain A' fz) (hs : A'.size = A.size) (cs' : List AV) (hc : ∀ i (h : i < cs'.length), ∃ v, A'[L.base + off + i]? = some v ∧ VRel κ cs'[i] v) :
    ∃ κ', Rep unf κ' (M.set id .dead ++ [.cells (some z) cs']) (put w L.blk (.cells A' t fz)) S ∧ κ.Le κ' ∧ Post M.length κ S w κ' S (put w L.blk (.cells A' t fz)) ∧ κ'.at_ M.length = some ⟨L.blk, L.base + off, some z, L.room - off⟩ := by
  obtain ⟨hlt, hM'⟩ := List.getElem?_eq_some_iff.1 hM
  obtain ⟨L', A0, t0, fz0, hL', hek, hSL, hA0, _, _, hroom⟩ := hR.cells hM
  rw [hL] at hL'; cases hL'
  rw [hA] at hA0; cases hA0
  have hr := hroom z rfl
  have hle : κ.Le { κ with at_ := fun i => if i = M.length then some ⟨L.blk, L.base + off, some z, L.room - off⟩ else κ.at_ i } := by
    refine ⟨fun i L h => ?_, fun _ _ h => h⟩
    simp only
    split
    · rename_i hi; rw [hR.dom i (by omega)] at h; cases h
    · exact h
  refine ⟨{ κ with at_ := fun i => if i = M.length then some ⟨L.blk, L.base + off, some z, L.room - off⟩ else κ.at_ i }, ⟨?_, ?_, fun b hb => by rw [put_size]; exact hR.lt b hb, ?_, hR.globLe unf hle.imm⟩, hle, ⟨?_, fun _ _ h => h, fun _ h => .inl h, fun _ _ h => .inl h, ?_, by rw [put_size]; exact Nat.le_refl _, ⟨rfl, rfl, rfl⟩⟩, by simp⟩
  · intro i hi
    simp at hi
    simp only
    split
    · omega
    · exact hR.dom i (by omega)
  · obtain ⟨F, hF, hd, hS⟩ := hR.own
    have hFL : F id L.blk := by
      have := hF id hlt
      rw [hM'] at this
      cases this with
      | cells L1 A1 t1 fz1 f h1 h2 h3 h4 h5 h6 h7 h8 => rw [hL] at h1; cases h1; exact h3
    refine ⟨fun i b => if i = M.length then F id b else if i = id then False else i < M.length ∧ F i b, fun i hi => ?_, fun i j b hij h1 h2 => ?_, fun i b hb => ?_⟩
    · simp at hi
      by_cases hl : i = M.length
      · subst hl
        rw [List.getElem_append_right (by simp)]
        simp only [List.length_set, Nat.sub_self, List.getElem_singleton, if_true]
        obtain ⟨f, hf⟩ := exists_fun hc
        exact .cells ⟨L.blk, L.base + off, some z, L.room - off⟩ A' t fz f (by simp) rfl hFL (put_same (lt_of_heap hA)) hp (fun i hi => (hf i hi).1) (fun i hi => (hf i hi).2.le hle) (fun z' _ => by simp only; omega)
      · have hlt' : i < M.length := by omega
        rw [List.getElem_append_left (by simpa using hlt')]
        by_cases hid : id = i
        · subst hid; rw [List.getElem_set_self]; exact .dead
        · rw [List.getElem_set_ne hid]
          refine ((hF i hlt').keep unf hle fun b hb => put_other (fun hb' => hd i id b (Ne.symm hid) hb (by rw [hb']; exact hFL))).mono unf fun b hb => ?_
          simp [hl, hlt', hb, Ne.symm hid]
    · by_cases hi : i = M.length
      · subst hi
        simp only [if_true] at h1
        simp only [if_neg (Ne.symm hij)] at h2
        by_cases hj : j = id
        · simp [hj] at h2
        · simp only [if_neg hj] at h2
          exact hd id j b (Ne.symm hj) h1 h2.2
      · simp only [if_neg hi] at h1
        by_cases hi' : i = id
        · simp [hi'] at h1
        · simp only [if_neg hi'] at h1
          by_cases hj : j = M.length
          · simp only [if_pos hj] at h2
            exact hd i id b hi' h1.2 h2
          · simp only [if_neg hj] at h2
            by_cases hj' : j = id
            · simp [hj'] at h2
            · simp only [if_neg hj'] at h2
              exact hd i j b hij h1.2 h2.2
    · by_cases hi : i = M.length
      · simp only [if_pos hi] at hb; exact hS _ _ hb
      · simp only [if_neg hi] at hb
        by_cases hi' : i = id
        · simp [hi'] at hb
        · simp only [if_neg hi'] at hb; exact hS _ _ hb.2
  · intro b A1 hb
    obtain ⟨h1, t', fz', h2, h3⟩ := hR.imm b A1 hb
    refine ⟨h1, t', fz', (put_other (fun hb' => h1 ?_)).trans h2, h3⟩
    rw [hb']; exact hSL
  · intro i hi; simp [show i ≠ M.length by omega]
  · intro b _ hS
    refine put_other fun hb' => hS ?_
    rw [hb']; exact hSL

/-- two runs of cells, one behind the other -/
theorem rel_append {κ : Ctx} {as bs : List AV} {us vs : List Value} (h1 : us.length = as.length) (h2 : vs.length = bs.length) (r1 : ∀ i (h : i < as.length) (h' : i < us.length), VRel κ as[i] us[i]) (r2 : ∀ i (h : i < bs.length) (h' : i < vs.length), VRel κ bs[i] vs[i]) :
    ∀ i (h : i < (as ++ bs).length), ∃ v, (us ++ vs)[i]? = some v ∧ VRel κ (as ++ bs)[i] v := by
  intro i h
  simp at h
  by_cases hi : i < as.length
  · refine ⟨us[i]'(by omega), ?_, ?_⟩
    · rw [List.getElem?_append_left (by omega), List.getElem?_eq_getElem]
    · rw [List.getElem_append_left hi]; exact r1 i hi (by omega)
  · refine ⟨vs[i - us.length]'(by omega), ?_, ?_⟩
    · rw [List.getElem?_append_right (by omega), List.getElem?_eq_getElem]
    · rw [List.getElem_append_right (by omega)]
      simp only [h1]
      exact r2 _ (by omega) _

/-- the model grows a row -/
theorem run_grow {ts : Array TypeId} {t u ty el : TypeId} (ht0 : ts[0]? = some t) (hu0 : ts[1]? = some u) {inf : TypeInfo} {z : Value} {du : TypeDesc} {q : Option Addr} {len c n : Nat} {cv : Value} {w : World} {old new : List Value} (ht : P.underlying t = some (.slice el)) (hu : P.underlying u = some du) (hdu : listy du = true) (hi : P.info? el = some inf) (hz : inf.zero = some z)
    (hn : (Builtin.lenOf cv).run P w = .ok n w) (hb0 : 0 < inf.bytes) (hb : (len + n) * inf.bytes ≤ 140737488355328) (hc : c < len + n) (hzs : z.cells.size = inf.size) (hzo : ∀ v, v ∈ z.cells → one v)
    (hold : ∀ w' : World, w'.heap = w.heap → (Builtin.firstCells inf.size len (.slice q len c)).run P w' = .ok old.toArray w') (hnew : ∀ w' : World, w'.heap = w.heap → (Builtin.firstCells inf.size n cv).run P w' = .ok new.toArray w')
    (ho1 : ∀ v, v ∈ old → one v) (ho2 : ∀ v, v ∈ new → one v) (hl1 : old.length = len * inf.size) (hl2 : new.length = n * inf.size) :
    ∃ (w' : World) (A : Array Value) (cap : Nat), (Builtin.append_ ts ty #[.slice q len c, cv]).run P w = .ok (.slice (some ⟨w.heap.size, 0, none⟩) (len + n) cap) w' ∧ w'.heap = w.heap.push (.cells A el (0, 0)) ∧ (w'.tape = w.tape ∧ w'.os = w.os ∧ w'.output = w.output) ∧
      (∀ v, v ∈ A → one v) ∧ A.size = cap * inf.size ∧ len + n ≤ cap ∧ ∀ (i : Nat) (v : Value), (old ++ new)[i]? = some v → A[i]? = some v := by
  let cap := (Question.appendCap (len + n) c el).cut (w.tape w.drawn (.appendCap (len + n) c el))
  have hcap : len + n ≤ cap := by simp only [cap, Question.cut]; omega
  let A : Array Value := old.toArray ++ new.toArray ++ Builtin.zeroCells z.cells (cap - (len + n))
  have hzc : (Builtin.zeroCells z.cells (cap - (len + n))).size = (cap - (len + n)) * inf.size := by simp [Builtin.zeroCells, hzs]
  refine ⟨{ w with heap := w.heap.push (.cells A el (0, 0)), drawn := w.drawn + 1 }, A, cap, ?_, rfl, ⟨rfl, rfl, rfl⟩, fun v hv => ?_, ?_, hcap, fun i v hv => ?_⟩
  · have hfit : ¬ (281474976710656 < Builtin.nextslicecap (len + n) c * inf.bytes) := by
      have := growslice_fits hc hb
      omega
    have hb1 : ¬ inf.bytes = 0 := by omega
    have hn1 : ¬ (len + n ≤ c) := by omega
    have g1 := hold w.drew rfl
    have g2 := hnew w.drew rfl
    cases du <;> first
      | (simp [listy] at hdu; done)
      | (simp [Builtin.append_, ht0, hu0, run_und ht, run_und hu, run_size hi, run_info hi, run_zero hi hz, hn, hn1, hfit, hb1, Question.forced, g1, g2, run_newRow, A, cap]; rfl)
  · simp [A, Builtin.zeroCells] at hv
    rcases hv with hv | hv | ⟨i, hi', rfl⟩
    · exact ho1 v hv
    · exact ho2 v hv
    · have hz1 : 0 < z.cells.size := by
        rcases Nat.eq_zero_or_pos z.cells.size with h0 | h0
        · rw [h0] at hi'; omega
        · exact h0
      have : i % z.cells.size < z.cells.size := Nat.mod_lt _ hz1
      rw [getElem!_pos z.cells _ this]
      exact hzo _ (Array.getElem_mem this)
  · simp only [A, Array.size_append, List.size_toArray, hzc, hl1, hl2]
    rw [← Nat.add_mul, ← Nat.add_mul]
    congr 1
    omega
  · simp only [A, List.append_toArray]
    obtain ⟨hlt, _⟩ := List.getElem?_eq_some_iff.1 hv
    rw [Array.getElem?_append_left (by simpa using hlt)]
    simpa using hv

theorem grow_iff {el : TypeId} {inf : TypeInfo} {need : Nat} {R : Prop} (hi : P.info? el = some inf) (h : growK P el inf need R) : 0 < inf.bytes ∧ need * inf.bytes ≤ 140737488355328 ∧ R ∧ ∃ z, inf.zero = some z ∧ z.cells.size = inf.size ∧ ∀ v, v ∈ z.cells → one v := by
  obtain ⟨h1, h⟩ := payK_iff.1 h
  simp at h1
  obtain ⟨i', z, zs, hi', hz, h, hzl, ho, _⟩ := zeroK_sound (κ := ⟨fun _ => none, fun _ => none⟩) h
  rw [hi] at hi'; cases hi'
  obtain ⟨h2, h⟩ := payK_iff.1 h
  simp at h2
  exact ⟨h1.1, h1.2, h, z, hz, by omega, ho⟩

/-- the model appends in place -/
theorem run_room {ts : Array TypeId} {t u ty el : TypeId} (ht0 : ts[0]? = some t) (hu0 : ts[1]? = some u) {inf : TypeInfo} {du : TypeDesc} {q : Option Addr} {len c n : Nat} {cv : Value} {w : World} {new : List Value} (ht : P.underlying t = some (.slice el)) (hu : P.underlying u = some du) (hdu : listy du = true) (hi : P.info? el = some inf)
    (hn : (Builtin.lenOf cv).run P w = .ok n w) (hc : len + n ≤ c) (hnew : (Builtin.firstCells inf.size n cv).run P w = .ok new.toArray w) :
    (Builtin.append_ ts ty #[.slice q len c, cv]).run P w = (match q with | some a => (storeCells (a.add (len * inf.size)) new).run P w | none => .ok () w).andThen fun _ w' => .ok (.slice q (len + n) c) w' := by
  cases du <;> first
    | (simp [listy] at hdu; done)
    | (cases q <;> simp [Builtin.append_, ht0, hu0, run_und ht, run_und hu, run_size hi, hn, hc, hnew])

theorem sub_length {cs : List AV} {off n : Nat} (h : off + n ≤ cs.length) : (sub cs off n).length = n := by simp [sub]; omega

theorem push_sound {κ : Ctx} {M : Mem O} {w : World} {S : Nat → Prop} (hR : Rep unf κ M w S) {ts : Array TypeId} {ty t u el : TypeId} {du : TypeDesc} {inf : TypeInfo} {n : Nat} {new : List AV} {vals : List Value} {s : AV} {cs cx : Value} {K : AV → Mem O → Prop}
    (ht0 : ts[0]? = some t) (hu0 : ts[1]? = some u) (ht : P.underlying t = some (.slice el)) (hu : P.underlying u = some du) (hdu : listy du = true) (hi : P.info? el = some inf) (hn : (Builtin.lenOf cx).run P w = .ok n w)
    (hnl : new.length = n * inf.size) (hvl : vals.length = new.length) (hvo : ∀ v, v ∈ vals → one v) (hvr : ∀ i (h : i < new.length) (h' : i < vals.length), VRel κ new[i] vals[i])
    (hfc : ∀ w' : World, w'.heap = w.heap → (Builtin.firstCells inf.size n cx).run P w' = .ok vals.toArray w') (h : pushA P el inf n new s M K) (hs : VRel κ s cs) :
    ∃ cv w', Done unf κ S w M.length K cv w' ∧ (Builtin.append_ ts ty #[cs, cx]).run P w = .ok cv w' := by
  cases s with
  | nilS =>
    have := hs.nilS_inv
    subst this
    simp only [pushA] at h
    rw [testK_iff] at h
    by_cases h0 : n = 0
    · have h2 := h.1 (by simpa using h0)
      clear h
      subst h0
      refine ⟨.slice none 0 0, w, Done.pure h2 hR .nilS, ?_⟩
      rw [run_room ht0 hu0 ht hu hdu hi hn (by omega) (hfc w rfl)]
      rfl
    · have h := h.2 (by simpa using h0)
      obtain ⟨hb0, hb, h, z, hz, hzs, hzo⟩ := grow_iff hi h
      have h := appK_one h
      obtain ⟨w', A, cap, hrun, hh, hrest, hAo, hAs, hcap, hAi⟩ := run_grow (ty := ty) (q := none) (len := 0) (c := 0) (old := []) ht0 hu0 ht hu hdu hi hz hn hb0 (by rw [Nat.zero_add]; exact hb) (by omega) hzs hzo (fun w' _ => by simp [Builtin.firstCells]) hfc (by simp) hvo (by simp) (by omega)
      obtain ⟨κ', S', hR', hk, hP, hat⟩ := hR.alloc hh hrest ⟨hAo, fun i _ h => by simp at h⟩ (some inf.size) new (fun i hi => ⟨vals[i]'(by omega), hAi i _ (by simp [show i < vals.length by omega]), hvr i hi (by omega)⟩)
      rw [Nat.zero_add] at hrun hcap
      exact ⟨_, w', ⟨κ', S', _, _, h, hR', .slr (L := ⟨w.heap.size, 0, some inf.size, A.size⟩) (Nat.le_refl _) hat rfl hcap (by simp only; omega), hk, hP, by simp⟩, hrun⟩
  | sl id off len cap =>
    simp only [pushA] at h
    rw [testK_iff] at h
    by_cases hroom : len + n ≤ cap
    · have h := h.1 (by simpa using hroom)
      obtain ⟨ob, hM, h⟩ := getK_iff.1 h
      cases ob with
      | dead => exact h.elim
      | obj _ => exact h.elim
      | cells ek cells =>
        obtain ⟨hle, h⟩ := putK_iff.1 h
        obtain ⟨_, h⟩ := setK_iff.1 h
        have hin : ∀ (L : Loc) (o c : Nat), κ.at_ id = some L → cap ≤ c → (0 < vals.length → o = L.base + off) → ∃ w', ((match (some (⟨L.blk, o, none⟩ : Addr)) with | some a => (storeCells (a.add (len * inf.size)) vals).run P w | none => .ok () w).andThen fun _ w' => Result.ok (Value.slice (some ⟨L.blk, o, none⟩) (len + n) c) w') = .ok (Value.slice (some ⟨L.blk, o, none⟩) (len + n) c) w' ∧ Rep unf κ (M.set id (.cells ek (cells.take (off + len * inf.size) ++ (new ++ cells.drop (off + len * inf.size + new.length))))) w' S ∧ Post M.length κ S w κ S w' := by
          intro L o c hL hc ho
          obtain ⟨w', hw, hR', hP⟩ := hR.lay (P := P) hM hL hle hvl.symm hvo hvr
          refine ⟨w', ?_, hR', hP⟩
          by_cases h0 : 0 < vals.length
          · simp only [addr_add, ho h0]
            rw [Nat.add_assoc, hw]
            rfl
          · obtain rfl : vals = [] := List.length_eq_zero_iff.1 (by omega)
            have : w' = w := by
              have e : (storeCells (⟨L.blk, L.base + (off + len * inf.size), none⟩ : Addr) []).run P w = .ok () w := rfl
              rw [e] at hw
              cases hw
              rfl
            subst this
            rfl
        cases hs with
        | @sl _ _ _ _ L g0 g1 g2 =>
          obtain ⟨w', hw, hR', hP⟩ := hin L _ cap g1 (Nat.le_refl _) (fun _ => rfl)
          refine ⟨_, w', ⟨κ, S, _, _, h, hR', .sl hroom g1 g2, .refl κ, hP, by simp⟩, ?_⟩
          rw [run_room ht0 hu0 ht hu hdu hi hn hroom (hfc w rfl)]
          exact hw
        | @slz _ _ L o g1 g2 =>
          obtain rfl : n = 0 := by omega
          obtain ⟨w', hw, hR', hP⟩ := hin L o 0 g1 (Nat.le_refl _) (fun hh => by rw [hvl, hnl] at hh; simp at hh)
          refine ⟨_, w', ⟨κ, S, _, _, h, hR', .slz (o := o) g1 g2, .refl κ, hP, by simp⟩, ?_⟩
          rw [run_room ht0 hu0 ht hu hdu hi hn (Nat.le_refl _) (hfc w rfl)]
          exact hw
        | @slr _ _ _ _ L z c g0 g1 g2 g3 g4 =>
          obtain ⟨w', hw, hR', hP⟩ := hin L _ c g1 g3 (fun _ => rfl)
          refine ⟨_, w', ⟨κ, S, _, _, h, hR', .slr hroom g1 g2 g3 g4, .refl κ, hP, by simp⟩, ?_⟩
          rw [run_room ht0 hu0 ht hu hdu hi hn (by omega) (hfc w rfl)]
          exact hw
    · have h := h.2 (by simpa using hroom)
      obtain ⟨hb0, hb, h, z, hz, hzs, hzo⟩ := grow_iff hi h
      obtain ⟨ob, hM, h⟩ := getK_iff.1 h
      cases ob with
      | dead => exact h.elim
      | obj _ => exact h.elim
      | cells ek cells =>
        obtain ⟨L, A0, t0, fz0, hL, hek, hSL, hA0, hp0, hc0, hroom0⟩ := hR.cells hM
        -- the old cells
        have hold : ∀ (hle : off + len * inf.size ≤ cells.length) (o c : Nat), (0 < len * inf.size → o = L.base + off) → ∃ old : List Value, old.length = len * inf.size ∧ (∀ v, v ∈ old → one v) ∧ (∀ i (h : i < (sub cells off (len * inf.size)).length) (h' : i < old.length), VRel κ (sub cells off (len * inf.size))[i] old[i]) ∧ (∀ i (h : i < old.length), A0[L.base + off + i]? = some old[i]) ∧
            ∀ w' : World, w'.heap = w.heap → (Builtin.firstCells inf.size len (.slice (some ⟨L.blk, o, none⟩) len c)).run P w' = .ok old.toArray w' := by
          intro hle o c ho
          obtain ⟨f, hf⟩ := exists_fun hc0
          refine ⟨(List.range (len * inf.size)).map fun i => f (off + i), by simp, fun v hv => ?_, fun i h1 h2 => ?_, fun i h1 => ?_, fun w' hw => ?_⟩
          · simp at hv
            obtain ⟨i, hi, rfl⟩ := hv
            exact hp0.1 _ (Array.mem_of_getElem? (hf (off + i) (by omega)).1)
          · rw [sub_length hle] at h1
            simp only [sub, List.getElem_take, List.getElem_drop, List.getElem_map, List.getElem_range]
            exact (hf (off + i) (by omega)).2
          · simp at h1
            simp only [List.getElem_map, List.getElem_range]
            rw [Nat.add_assoc]
            exact (hf (off + i) (by omega)).1
          · simp only [Builtin.firstCells]
            by_cases h0 : 0 < len * inf.size
            · rw [ho h0]
              exact run_loadCells' P (hw ▸ hA0) _ fun j hj => by rw [Nat.add_assoc]; exact (hf (off + j) (by omega)).1
            · have : len * inf.size = 0 := by omega
              rw [this]
              rfl
        -- the model makes a new row
        have hgrow : ∀ (hle : off + len * inf.size ≤ cells.length) (o c : Nat) (Mx : Mem O), (0 < len * inf.size → o = L.base + off) → c < len + n → Mx.length = M.length → Rep unf κ Mx w S → K (.sl M.length 0 (len + n) (len + n)) (Mx ++ [.cells (some inf.size) (sub cells off (len * inf.size) ++ new)]) →
            ∃ cv w', Done unf κ S w M.length K cv w' ∧ (Builtin.append_ ts ty #[.slice (some ⟨L.blk, o, none⟩) len c, cx]).run P w = .ok cv w' := by
          intro hle o c Mx ho hc hMx hRx hK
          obtain ⟨old, k1, k2, k3, k4, k5⟩ := hold hle o c ho
          obtain ⟨w', A, cap', hrun, hh, hrest, hAo, hAs, hcap, hAi⟩ := run_grow (ty := ty) ht0 hu0 ht hu hdu hi hz hn hb0 hb hc hzs hzo k5 hfc k2 hvo k1 (by omega)
          obtain ⟨κ', S', hR', hk, hP, hat⟩ := hRx.alloc hh hrest ⟨hAo, fun i _ h => by simp at h⟩ (some inf.size) (sub cells off (len * inf.size) ++ new) (fun i hi => by
            obtain ⟨v, hv, hr⟩ := rel_append (by rw [k1, sub_length hle]) hvl k3 hvr i hi
            exact ⟨v, hAi i v hv, hr⟩)
          rw [hMx] at hP hat
          exact ⟨_, w', ⟨κ', S', _, _, hK, hR', .slr (L := ⟨w.heap.size, 0, some inf.size, A.size⟩) (Nat.le_refl _) hat rfl hcap (by simp only; omega), hk, hP, by simp; omega⟩, hrun⟩
        cases ek with
        | none =>
          obtain ⟨hle, h⟩ := payK_iff.1 h
          simp at hle
          have h5 := appK_one h
          clear h
          cases hs with
          | @sl _ _ _ _ L' g0 g1 g2 => rw [hL] at g1; cases g1; exact hgrow hle _ cap M (fun _ => rfl) (by omega) rfl hR h5
          | @slz _ _ L' o g1 g2 => rw [hL] at g1; cases g1; exact hgrow hle o 0 M (fun h => by simp at h) (by omega) rfl hR h5
          | slr g0 g1 g2 => rw [hL] at g1; cases g1; rw [hek] at g2; cases g2
        | some zz =>
          obtain ⟨hle, h4⟩ := payK_iff.1 h
          clear h
          obtain ⟨_, h3⟩ := setK_iff.1 h4
          clear h4
          have h := appK_one h3
          clear h3
          simp at hle
          obtain ⟨rfl, hle⟩ := hle
          cases hs with
          | sl g0 g1 g2 => rw [hL] at g1; cases g1; rw [hek] at g2; cases g2
          | slz g1 g2 => rw [hL] at g1; cases g1; rw [hek] at g2; cases g2
          | @slr _ _ _ _ L' z' c g0 g1 g2 g3 g4 =>
            rw [hL] at g1; cases g1
            rw [hek] at g2; cases g2
            by_cases hcc : len + n ≤ c
            · -- in place
              have hrm := hroom0 _ rfl
              have e0 : (len + n) * inf.size ≤ c * inf.size := Nat.mul_le_mul_right _ hcc
              rw [Nat.add_mul] at e0
              have hfit : L.base + off + len * inf.size + vals.length ≤ A0.size := by omega
              obtain ⟨old, k1, k2, k3, k4, k5⟩ := hold hle (L.base + off) c (fun _ => rfl)
              have hst := run_storeCells P vals 0 A0 w (o := L.base + off + len * inf.size) hA0 hp0 (by simpa using hfit) hvo
              obtain ⟨κ', hR', hk, hP, hat⟩ := hR.regrow hM hL (off := off) (by omega) hA0 (spl_plain (k := L.base + off + len * inf.size + 0) hp0 hvo) (spl_size _ _ _) (sub cells off (len * inf.size) ++ new) (fun i hi => by
                obtain ⟨v, hv, hr⟩ := rel_append (by rw [k1, sub_length hle]) hvl k3 hvr i hi
                refine ⟨v, ?_, hr⟩
                simp [sub_length hle] at hi
                by_cases hi1 : i < len * inf.size
                · rw [spl_out (by omega), k4 i (by omega)]
                  rw [List.getElem?_append_left (by omega), List.getElem?_eq_getElem (by omega)] at hv
                  exact hv
                · rw [List.getElem?_append_right (by omega)] at hv
                  have := spl_in (A := A0) (k := L.base + off + len * inf.size + 0) (vs := vals) (by simpa using hfit) (j := i - len * inf.size) (by omega)
                  rw [show L.base + off + i = L.base + off + len * inf.size + 0 + (i - len * inf.size) from by omega, this, ← hv, k1])
              have hlen : (M.set id AO.dead).length = M.length := by simp
              refine ⟨_, _, ⟨κ', S, _, _, h, hR', .slr (L := ⟨L.blk, L.base + off, some inf.size, L.room - off⟩) (c := c) (Nat.le_refl _) hat rfl hcc (by simp only; omega), hk, hP, by simp⟩, ?_⟩
              rw [run_room ht0 hu0 ht hu hdu hi hn hcc (hfc w rfl)]
              simp only [addr_add]
              rw [hst]
              rfl
            · exact hgrow hle _ c (M.set id .dead) (fun _ => rfl) (by omega) (by simp) (hR.dead id) h
  | _ => exact h.elim

theorem append_sound {κ : Ctx} {M : Mem O} {w : World} {S : Nat → Prop} (hR : Rep unf κ M w S) {ts : Array TypeId} {ty : TypeId} {s x : AV} {cs cx : Value} {K : AV → Mem O → Prop} (h : appendA P ts s x M K) (hs : VRel κ s cs) (hx : VRel κ x cx) :
    ∃ cv w', Done unf κ S w M.length K cv w' ∧ (Builtin.append_ ts ty #[cs, cx]).run P w = .ok cv w' := by
  unfold appendA at h
  split at h
  · rename_i t u ht0 hu0
    obtain ⟨d, ht, h⟩ := descK_iff.1 h
    obtain ⟨du, hu, h⟩ := descK_iff.1 h
    cases d with
    | slice el =>
      dsimp only at h
      obtain ⟨hdu, h⟩ := payK_iff.1 h
      obtain ⟨inf, hi, h⟩ := infoK_iff.1 h
      obtain ⟨n, h, hn⟩ := lenK_sound (P := P) h hx
      obtain ⟨new, vals, h, hnl, hvl, hvo, hvr, hfc⟩ := news_sound (P := P) hR h hx (hn w)
      refine push_sound hR ht0 hu0 ht hu hdu hi (hn w) hnl hvl hvo hvr (fun w' hw => ?_) h hs
      have := hfc n (Nat.le_refl _) w' hw
      rwa [List.take_of_length_le (by omega)] at this
    | _ => exact h.elim
  · exact h.elim

end Go.Am
end
section
namespace Go.Am
open Go

variable {O : Type} {unf : O → List (AO O)} {P : Program}

theorem copy_sound {κ : Ctx} {M : Mem O} {w : World} {S : Nat → Prop} (hR : Rep unf κ M w S) {ts : Array TypeId} {ty : TypeId} {d s : AV} {cd cx : Value} {K : AV → Mem O → Prop} (h : copyA P ts d s M K) (hd : VRel κ d cd) (hx : VRel κ s cx) :
    ∃ cv w', Done unf κ S w M.length K cv w' ∧ (Builtin.copy_ ts ty #[cd, cx]).run P w = .ok cv w' := by
  unfold copyA at h
  split at h
  · rename_i t ht0
    obtain ⟨dd, ht, h⟩ := descK_iff.1 h
    cases dd with
    | slice el =>
      dsimp only at h
      obtain ⟨inf, hi, h⟩ := infoK_iff.1 h
      obtain ⟨n, h, hn⟩ := lenK_sound (P := P) h hx
      obtain ⟨m, h, hm⟩ := lenK_sound (P := P) h hd
      obtain ⟨new, vals, h, hnl, hvl, hvo, hvr, hfc⟩ := news_sound (P := P) hR h hx (hn w)
      have hfc1 := hfc (min n m) (Nat.min_le_left _ _) w rfl
      have key : ∀ (q : Option Addr) (c : Nat), cd = .slice q m c → (Builtin.copy_ ts ty #[cd, cx]).run P w = (match q with | some a => (storeCells a (vals.take (min n m * inf.size))).run P w | none => .ok () w).andThen fun _ w' => .ok (.int .i64 (min n m : Nat)) w' := by
        intro q c hc
        subst hc
        cases q <;> simp [Builtin.copy_, ht0, run_und ht, hn w, run_size hi, hfc1, goInt]
      cases d with
      | nilS =>
        have hc := hd.nilS_inv
        have hm0 : m = 0 := by
          have := hm w
          rw [hc] at this
          simp [Builtin.lenOf] at this
          exact this.symm
        subst hm0
        refine ⟨_, w, Done.pure h hR (.int .i64 0), ?_⟩
        rw [key none 0 hc]
        simp
      | sl id off len cap =>
        obtain ⟨ob, hM, h⟩ := getK_iff.1 h
        cases ob with
        | dead => exact h.elim
        | obj _ => exact h.elim
        | cells ek ds =>
          obtain ⟨hle, h⟩ := putK_iff.1 h
          obtain ⟨_, h⟩ := setK_iff.1 h
          have hin : ∀ (L : Loc) (o c : Nat), κ.at_ id = some L → cd = .slice (some ⟨L.blk, o, none⟩) len c → (0 < (vals.take (min n m * inf.size)).length → o = L.base + off) → ∃ cv w', Done unf κ S w M.length K cv w' ∧ (Builtin.copy_ ts ty #[cd, cx]).run P w = .ok cv w' := by
            intro L o c hL hc ho
            have hlm : len = m := by
              have := hm w
              rw [hc] at this
              simp [Builtin.lenOf] at this
              exact this
            obtain ⟨w', hw, hR', hP⟩ := hR.lay (P := P) hM hL hle (vals := vals.take (min n m * inf.size)) (by simp; omega) (fun v hv => hvo v (List.mem_of_mem_take hv)) (fun i a b => by
              simp at a b
              simpa using hvr i (by omega) (by omega))
            refine ⟨_, w', ⟨κ, S, _, _, h, hR', .int _ _, .refl κ, hP, by simp⟩, ?_⟩
            rw [key _ c (by rw [hc, hlm])]
            by_cases h0 : 0 < (vals.take (min n m * inf.size)).length
            · rw [ho h0]
              simp only [hw]
              rfl
            · have h1 : vals.take (min n m * inf.size) = [] := List.length_eq_zero_iff.1 (by omega)
              rw [h1] at hw ⊢
              have : w' = w := by
                have e : (storeCells (⟨L.blk, L.base + off, none⟩ : Addr) []).run P w = .ok () w := rfl
                rw [e] at hw
                cases hw
                rfl
              subst this
              rfl
          generalize hq : cd = c at hd
          rw [hq] at hin
          cases hd with
          | @sl _ _ _ _ L g0 g1 g2 => exact hin L _ cap g1 rfl (fun _ => rfl)
          | @slz _ _ L o g1 g2 =>
            have hm0 : m = 0 := by
              have := hm w
              rw [hq] at this
              simp [Builtin.lenOf] at this
              exact this.symm
            exact hin L o 0 g1 rfl (fun h => by simp [hm0] at h)
          | @slr _ _ _ _ L z c g0 g1 g2 g3 g4 => exact hin L _ c g1 rfl (fun _ => rfl)
      | _ => exact h.elim
    | _ => exact h.elim
  · exact h.elim

theorem mins_sound {κ : Ctx} {k : IntKind} {R : Int → Prop} (w : World) : ∀ {l : List AV} {m : List Value} {a : Int}, minsK R k a l → l.length = m.length → (∀ i (h : i < l.length) (h' : i < m.length), VRel κ l[i] m[i]) → ∃ n, R n ∧ (m.foldlM Builtin.min2 (.int k a)).run P w = .ok (.int k n) w
  | [], m, a, h, hl, _ => by
    obtain rfl : m = [] := List.length_eq_zero_iff.1 (by simpa using hl.symm)
    exact ⟨a, h, rfl⟩
  | v :: l, m, a, h, hl, hr => by
    cases m with
    | nil => simp at hl
    | cons c m =>
      cases v with
      | int k' b =>
        obtain ⟨hk, h2⟩ := payK_iff.1 h
        simp at hk; subst hk
        have := (hr 0 (by simp) (by simp)).int_inv
        simp at this
        subst this
        obtain ⟨n, h3, h4⟩ := mins_sound w h2 (by simpa using hl) (fun i a b => hr (i + 1) (by simpa using a) (by simpa using b))
        refine ⟨n, h3, ?_⟩
        have e : (if b < a then b else a) = min a b := by omega
        simp only [List.foldlM_cons, Builtin.min2, Sem.run_bind, Sem.run_pure, Result.andThen_ok, e]
        exact h4
      | _ => exact h.elim

theorem maxs_sound {κ : Ctx} {k : IntKind} {R : Int → Prop} (w : World) : ∀ {l : List AV} {m : List Value} {a : Int}, maxsK R k a l → l.length = m.length → (∀ i (h : i < l.length) (h' : i < m.length), VRel κ l[i] m[i]) → ∃ n, R n ∧ (m.foldlM Builtin.max2 (.int k a)).run P w = .ok (.int k n) w
  | [], m, a, h, hl, _ => by
    obtain rfl : m = [] := List.length_eq_zero_iff.1 (by simpa using hl.symm)
    exact ⟨a, h, rfl⟩
  | v :: l, m, a, h, hl, hr => by
    cases m with
    | nil => simp at hl
    | cons c m =>
      cases v with
      | int k' b =>
        obtain ⟨hk, h2⟩ := payK_iff.1 h
        simp at hk; subst hk
        have := (hr 0 (by simp) (by simp)).int_inv
        simp at this
        subst this
        obtain ⟨n, h3, h4⟩ := maxs_sound w h2 (by simpa using hl) (fun i a b => hr (i + 1) (by simpa using a) (by simpa using b))
        refine ⟨n, h3, ?_⟩
        have e : (if b > a then b else a) = max a b := by omega
        simp only [List.foldlM_cons, Builtin.max2, Sem.run_bind, Sem.run_pure, Result.andThen_ok, e]
        exact h4
      | _ => exact h.elim

end Go.Am
end
