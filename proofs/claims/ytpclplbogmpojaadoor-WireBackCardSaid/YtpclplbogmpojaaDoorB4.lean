/-
  Part 4 of a proof: an abstract machine for the program, and what pieces of the program compute (AmSort, AmOrd, AmCodeS, AmDrawS, AmView, AmFrame, AmCall, AmCall2, AmPack, AmPack2). No condition of its own.
-/
import Derived.Test.YtpclplbogmpojaaDoorB3
import Derived.Orders
import Derived.LoopN
set_option linter.unusedSimpArgs false
set_option linter.unusedVariables false
section
namespace Go.Am
open Go

variable {P : Program} {O : Type} {C : CallP O} {ops : List Oper} {an : List Nat} {K : Env → Mem O → Prop}

/-- a run with less on its log -/
theorem runA_log (hC : COk C) : ∀ {l : List Nat} {log log' : Log} {e : Env} {M : Mem O}, (∀ p, p ∈ log' → p ∈ log) → runA P C ops an K log l e M → runA P C ops an K log' l e M
  | [], _, _, _, _, _, h => h
  | i :: l, log, log', e, M, hl, h => by
    obtain ⟨o, b, h1, h2, h3⟩ := runA_cons.1 h
    exact runA_cons.2 ⟨o, b, h1, h2, h3.to hC (.refl (ops := ops) o e) rfl hl fun v M' L _ h => runA_log hC (addLog_sub hl) h⟩

/-- the same first step -/
theorem runA_head (hC : COk C) {i : Nat} {l l' : List Nat} (hl : ∀ log e M, runA P C ops an K log l e M → runA P C ops an K log l' e M) {log : Log} {e : Env} {M : Mem O} (h : runA P C ops an K log (i :: l) e M) : runA P C ops an K log (i :: l') e M := by
  obtain ⟨o, b, h1, h2, h3⟩ := runA_cons.1 h
  exact runA_cons.2 ⟨o, b, h1, h2, h3.to hC (.refl (ops := ops) o e) rfl (fun _ h => h) fun v M' L _ h => hl _ _ _ h⟩

/-- who writes a slot, and who names it, come in one order -/
def Slots (ops : List Oper) (an : List Nat) : Prop := ∀ (i j : Nat) (p o : Oper), ops[i]? = some p → ops[j]? = some o → ∀ t, p.dst = some t → (o.dst = some t ∨ t ∈ slotsOf ops o) → i = j ∨ has (an.getD j 0) i = true ∨ has (an.getD i 0) j = true

theorem slotOk_spec (h : slotOk ops an = true) : Slots ops an := by
  intro i j p o hi hj t ht ho
  simp only [slotOk, List.all_eq_true] at h
  have h1 := h (o, j) (List.mem_zipIdx_iff_getElem?.2 (by simpa using hj)) t (by
    rcases ho with ho | ho
    · exact List.mem_append_left _ (by simp [ho])
    · exact List.mem_append_right _ ho) (p, i) (List.mem_zipIdx_iff_getElem?.2 (by simpa using hi))
  simp only [Bool.or_eq_true, decide_eq_true_eq] at h1
  rcases h1 with ((h1 | h1) | h1) | h1
  · exact absurd ht h1
  · exact .inl h1
  · exact .inr (.inl h1)
  · exact .inr (.inr h1)

/-- a pure operation and one behind it change places -/
theorem runA_swap (hC : COk C) (hS : Slots ops an) {x k : Nat} (hne : x ≠ k) (hx : ∀ o, ops[x]? = some o → pureOp P o.op = true) (hxk : has (an.getD k 0) x = false) (hkx : has (an.getD x 0) k = false) {l : List Nat} {log : Log} {e : Env} {M : Mem O}
    (h : runA P C ops an K log (x :: k :: l) e M) : runA P C ops an K log (k :: x :: l) e M := by
  obtain ⟨ox, bx, h1, h2, h3⟩ := runA_cons.1 h
  have apart : ∀ (ok : Oper), ops[k]? = some ok → (∀ t, ox.dst = some t → ok.dst ≠ some t ∧ t ∉ slotsOf ops ok) ∧ (∀ t, ok.dst = some t → t ∉ slotsOf ops ox) := by
    intro ok hok
    refine ⟨fun t ht => ⟨fun hc => ?_, fun hc => ?_⟩, fun t ht hc => ?_⟩
    · rcases hS x k ox ok h1 hok t ht (.inl hc) with h | h | h
      · exact hne h
      · rw [hxk] at h; cases h
      · rw [hkx] at h; cases h
    · rcases hS x k ox ok h1 hok t ht (.inr hc) with h | h | h
      · exact hne h
      · rw [hxk] at h; cases h
      · rw [hkx] at h; cases h
    · rcases hS k x ok ox hok h1 t ht (.inr hc) with h | h | h
      · exact hne h.symm
      · rw [hkx] at h; cases h
      · rw [hxk] at h; cases h
  obtain ⟨v, L, hlt, h4, h5⟩ := h3.pure (hx ox h1)
  obtain ⟨ok, bk, h6, h7, h8⟩ := runA_cons.1 h4
  obtain ⟨ha, hb⟩ := apart ok h6
  have hs : Sees ops ok (putV e ox.dst v) e := (Sees.put ok e ox.dst v fun t ht => (ha t ht).2).symm
  refine runA_cons.2 ⟨ok, bk, h6, hs.want.trans h7, h8.to hC hs (by rw [putV_length]) addLog_mem fun vk M' Lk hsp hr => ?_⟩
  have hsx : Sees ops ox e (putV e ok.dst vk) := Sees.put ox e ok.dst vk hb
  refine runA_cons.2 ⟨ox, bx, h1, hsx.want.trans h2, h5 _ _ _ _ hsx (putV_length _ _ _) (fun n hn hlt => ?_) ?_⟩
  · cases L with
    | nil => cases hn
    | cons a L => exact hsp x (a :: L) (addLog_has (by simp)) hxk n hn hlt
  · rw [putV_comm e v vk fun t ht => (ha t ht).1] at hr
    exact runA_log hC (addLog_swap x k L Lk log) hr

/-- .. and all the pure ones ahead of it -/
theorem runA_pull (hC : COk C) (hS : Slots ops an) {k : Nat} {post : List Nat} : ∀ (pre : List Nat), (∀ x, x ∈ pre → x ≠ k ∧ (∀ o, ops[x]? = some o → pureOp P o.op = true) ∧ has (an.getD k 0) x = false ∧ has (an.getD x 0) k = false) →
    ∀ {log : Log} {e : Env} {M : Mem O}, runA P C ops an K log (pre ++ k :: post) e M → runA P C ops an K log (k :: (pre ++ post)) e M
  | [], _, _, _, _, h => h
  | x :: pre, hp, log, e, M, h => by
    obtain ⟨h1, h2, h3, h4⟩ := hp x (by simp)
    exact runA_swap hC hS h1 h2 h3 h4 (runA_head hC (fun log e M h => runA_pull hC hS pre (fun y hy => hp y (by simp [hy])) h) h)

/-- an order: nobody ahead of his forerunners -/
abbrev Back (an : List Nat) (l : List Nat) : Prop := l.Pairwise fun x y => has (an.getD x 0) y = false

/-- the last acting operation ahead of a pure one is its forerunner -/
def Eager (an : List Nat) (act : Nat → Bool) : Option Nat → List Nat → Prop
  | _, [] => True
  | last, x :: r => (act x = true → Eager an act (some x) r) ∧ (act x = false → (∀ y, last = some y → has (an.getD x 0) y = true) ∧ Eager an act last r)

theorem eager_of {acts : List Nat} : ∀ {l : List Nat} {last : Option Nat}, eagerOk an acts last l = true → Eager an (fun x => acts.contains x) last l
  | [], _, _ => trivial
  | a :: l, last, h => by
    simp only [eagerOk] at h
    cases ha : acts.contains a with
    | true =>
      rw [ha] at h
      exact ⟨fun _ => eager_of h, fun hf => absurd (ha.symm.trans hf) (by simp)⟩
    | false =>
      rw [ha] at h
      simp only [Bool.and_eq_true] at h
      refine ⟨fun hf => absurd (ha.symm.trans hf) (by simp), fun _ => ⟨fun y hy => ?_, eager_of h.2⟩⟩
      rw [hy] at h
      exact h.1

theorem Eager.weak {act : Nat → Bool} : ∀ {l : List Nat} {last : Option Nat}, Eager an act last l → Eager an act Option.none l
  | [], _, _ => trivial
  | _ :: _, _, h => ⟨h.1, fun hx => ⟨fun _ hy => (by cases hy), (h.2 hx).2.weak⟩⟩

theorem Eager.without {act : Nat → Bool} {k : Nat} {post : List Nat} : ∀ {pre : List Nat} {last : Option Nat}, Eager an act last (pre ++ k :: post) → (∀ x, x ∈ pre → act x = false) → Eager an act none (pre ++ post)
  | [], last, h, _ => by
    cases hk : act k with
    | true => exact (h.1 hk).weak
    | false => exact (h.2 hk).2.weak
  | x :: pre, last, h, hp => by
    have hx := hp x (by simp)
    exact ⟨fun hf => absurd (hx.symm.trans hf) (by simp), fun _ => ⟨fun _ hy => (by cases hy), (h.2 hx).2.without fun y hy => hp y (by simp [hy])⟩⟩

theorem Eager.after {act : Nat → Bool} {k y : Nat} {post : List Nat} (hk : act k = false) : ∀ {p2 : List Nat}, Eager an act (some y) (p2 ++ k :: post) → (∀ z, z ∈ p2 → act z = false) → has (an.getD k 0) y = true
  | [], h, _ => (h.2 hk).1 y rfl
  | z :: p2, h, hz => Eager.after hk (h.2 (hz z (by simp))).2 fun w hw => hz w (by simp [hw])

theorem Eager.last {act : Nat → Bool} {k y : Nat} {p2 post : List Nat} (hk : act k = false) (hy : act y = true) (hz : ∀ z, z ∈ p2 → act z = false) : ∀ {p1 : List Nat} {last : Option Nat}, Eager an act last (p1 ++ y :: p2 ++ k :: post) → has (an.getD k 0) y = true
  | [], _, h => Eager.after hk (h.1 hy) hz
  | z :: p1, last, h => by
    cases hz' : act z with
    | true => exact Eager.last (p1 := p1) hk hy hz (h.1 hz')
    | false => exact Eager.last (p1 := p1) hk hy hz (h.2 hz').2

/-- the last one of a kind -/
theorem last_of (p : Nat → Bool) : ∀ l : List Nat, (∀ z, z ∈ l → p z = false) ∨ ∃ p1 y p2, l = p1 ++ y :: p2 ∧ p y = true ∧ ∀ z, z ∈ p2 → p z = false
  | [] => .inl fun _ h => by simp at h
  | a :: l => by
    rcases last_of p l with h | ⟨p1, y, p2, rfl, h1, h2⟩
    · cases ha : p a with
      | true => exact .inr ⟨[], a, l, rfl, ha, h⟩
      | false => exact .inl fun z hz => by
                                        simp at hz
                                        rcases hz with rfl | hz
                                        · exact ha
                                        · exact h z hz
    · exact .inr ⟨a :: p1, y, p2, rfl, h1, h2⟩

/-- one order, and another -/
theorem runA_sort (hC : COk C) (hS : Slots ops an) {act : Nat → Bool} (hact : ∀ x, act x = false → ∀ o, ops[x]? = some o → pureOp P o.op = true) : ∀ (l pl : List Nat), pl.Perm l → l.Nodup → Back an l → Back an pl → Eager an act none pl → pl.filter act = l.filter act →
    ∀ {log : Log} {e : Env} {M : Mem O}, runA P C ops an K log pl e M → runA P C ops an K log l e M
  | [], pl, hp, _, _, _, _, _, log, e, M, h => by rw [hp.eq_nil] at h; exact h
  | k :: l, pl, hp, hnd, hb, hb', he, hf, log, e, M, h => by
    obtain ⟨pre, post, rfl⟩ := List.append_of_mem (hp.symm.subset (by simp : k ∈ k :: l))
    have hpp : (pre ++ post).Perm l := (List.perm_cons k).1 ((List.perm_middle.symm).trans hp)
    have hnd' : (pre ++ k :: post).Nodup := hp.nodup_iff.2 hnd
    have hkpre : k ∉ pre := fun h => by
      have := List.nodup_append.1 hnd'
      exact this.2.2 k h k (by simp) rfl
    have hmem : ∀ x, x ∈ pre → x ∈ l := fun x hx => hpp.subset (List.mem_append_left _ hx)
    have hpure : ∀ x, x ∈ pre → act x = false := by
      rcases last_of act pre with h | ⟨p1, y, p2, rfl, h1, h2⟩
      · exact h
      · exfalso
        cases hk : act k with
        | true =>
          -- the acting ones come in one order
          rw [List.filter_append, List.filter_append, List.filter_cons_of_pos h1, List.filter_cons_of_pos hk] at hf
          rw [List.filter_cons_of_pos hk] at hf
          cases hq : p1.filter act with
          | nil =>
            rw [hq] at hf
            simp at hf
            exact hkpre (by rw [← hf.1]; simp)
          | cons z q =>
            rw [hq] at hf
            simp at hf
            have : z ∈ p1.filter act := by rw [hq]; simp
            exact hkpre (by rw [← hf.1]; simp [(List.mem_filter.1 this).1])
        | false =>
          have h3 := he.last hk h1 h2
          have := (List.pairwise_cons.1 hb).1 y (hmem y (by simp))
          rw [h3] at this; cases this
    have hb1 := List.pairwise_append.1 hb'
    have hsides : ∀ x, x ∈ pre → x ≠ k ∧ (∀ o, ops[x]? = some o → pureOp P o.op = true) ∧ has (an.getD k 0) x = false ∧ has (an.getD x 0) k = false := fun x hx =>
      ⟨fun h => hkpre (h ▸ hx), hact x (hpure x hx), (List.pairwise_cons.1 hb).1 x (hmem x hx), hb1.2.2 x hx k (by simp)⟩
    refine runA_head hC (fun log e M h => runA_sort hC hS hact l (pre ++ post) hpp (List.nodup_cons.1 hnd).2 (List.pairwise_cons.1 hb).2 ?_ ?_ ?_ h) (runA_pull hC hS pre hsides h)
    · exact List.pairwise_append.2 ⟨hb1.1, (List.pairwise_cons.1 hb1.2.1).2, fun a ha b hb => hb1.2.2 a ha b (by simp [hb])⟩
    · exact he.without hpure
    · have h0 : pre.filter act = [] := List.filter_eq_nil_iff.2 fun x hx => by simp [hpure x hx]
      rw [List.filter_append, h0, List.nil_append] at hf ⊢
      cases hk : act k with
      | true => simpa [List.filter_cons, hk] using hf
      | false => simpa [List.filter_cons, hk] using hf

end Go.Am
end
section
namespace Go.Am
open Go

theorem nodup_le {l : List Nat} : ∀ {m : List Nat}, l.Nodup → (∀ x, x ∈ l → x ∈ m) → l.length ≤ m.length := by
  induction l with
  | nil => simp
  | cons a l ih =>
    intro m hn hs
    obtain ⟨h1, h2⟩ := List.nodup_cons.1 hn
    have ha := hs a (by simp)
    have := ih (m := m.erase a) h2 fun x hx => (List.mem_erase_of_ne (by rintro rfl; exact h1 hx)).2 (hs x (by simp [hx]))
    have hl := List.length_erase_of_mem ha
    have : 0 < m.length := List.length_pos_of_mem ha
    simp only [List.length_cons]
    omega

theorem nodup_perm {l : List Nat} : ∀ {m : List Nat}, l.Nodup → (∀ x, x ∈ l → x ∈ m) → m.length ≤ l.length → l.Perm m := by
  induction l with
  | nil => intro m _ _ h; simp at h; subst h; exact .nil
  | cons a l ih =>
    intro m hn hs hlen
    obtain ⟨h1, h2⟩ := List.nodup_cons.1 hn
    have ha := hs a (by simp)
    have hl := List.length_erase_of_mem ha
    have := ih (m := m.erase a) h2 (fun x hx => (List.mem_erase_of_ne (by rintro rfl; exact h1 hx)).2 (hs x (by simp [hx]))) (by simp at hlen; omega)
    exact (this.cons a).trans (List.perm_cons_erase ha).symm

section
variable (md : Region.Mode) (ops : Array Oper)

/-- a list of what was taken, the last one first: whoever comes has his forerunners behind him -/
def ValidR : List Nat → Prop
  | [] => True
  | x :: r => (∀ o e, ops[x]? = some o → e ∈ o.after → Region.binds md e = true → e.on ∈ r) ∧ ValidR r

structure Listed (listed : Array Bool) (acc : List Nat) : Prop where
  size : listed.size = ops.size
  mem : ∀ i, listed.getD i false = true ↔ i ∈ acc
  nodup : acc.Nodup
  lt : ∀ i, i ∈ acc → i < ops.size
  valid : ValidR md ops acc

variable {md} {ops}

theorem Listed.start : Listed md ops (Array.replicate ops.size false) [] where
  size := by simp
  mem i := by
    simp [Array.getD]
  nodup := .nil
  lt i h := by cases h
  valid := trivial

theorem ready_iff {listed : Array Bool} {acc : List Nat} (h : Listed md ops listed acc) {i : Nat} : i ∈ Region.ready md ops listed ↔ i ∉ acc ∧ ∃ o, ops[i]? = some o ∧ ∀ e, e ∈ o.after → Region.binds md e = true → e.on ∈ acc := by
  rw [mem_ready]
  constructor
  · rintro ⟨h1, o, h2, h3⟩
    refine ⟨fun hi => ?_, o, h2, fun e he hb => (h.mem _).1 (h3 e he hb)⟩
    have hlt := h.lt i hi
    have := (h.mem i).2 hi
    rw [← h.size] at hlt
    simp [Array.getD, hlt] at h1 this
    rw [this] at h1; cases h1
  · rintro ⟨h1, o, h2, h3⟩
    refine ⟨?_, o, h2, fun e he hb => (h.mem _).2 (h3 e he hb)⟩
    have hlt : i < listed.size := by rw [h.size]; exact (Array.getElem?_eq_some_iff.1 h2).1
    have : ¬listed.getD i false = true := fun hc => h1 ((h.mem i).1 hc)
    simp [Array.getD, hlt] at this ⊢
    exact this

theorem Listed.next {listed : Array Bool} {acc : List Nat} (h : Listed md ops listed acc) {i : Nat} (hi : i ∈ Region.ready md ops listed) : Listed md ops (listed.setIfInBounds i true) (i :: acc) := by
  obtain ⟨h1, o, h2, h3⟩ := (ready_iff h).1 hi
  have hlt := (Array.getElem?_eq_some_iff.1 h2).1
  refine ⟨by simp [h.size], fun j => ?_, List.nodup_cons.2 ⟨h1, h.nodup⟩, fun j hj => ?_, ⟨fun o' e ho he hb => ?_, h.valid⟩⟩
  · by_cases hj : i = j
    · subst hj
      have hlt' : i < listed.size := by rw [h.size]; exact hlt
      simp [hlt']
    · rw [getD_set_ne false hj, h.mem j]
      simp [Ne.symm hj]
  · simp at hj
    rcases hj with rfl | hj
    · exact hlt
    · exact h.lt j hj
  · rw [h2] at ho; cases ho; exact h3 e he hb

/-- the model's own walk -/
theorem go_listed : ∀ (fuel t : Nat) {listed : Array Bool} {acc : List Nat}, Listed md ops listed acc → ∃ listed', Listed md ops listed' (Region.linearise.go md ops fuel t listed acc).reverse ∧
    ((∀ listed acc, Listed md ops listed acc → acc.length < ops.size → Region.ready md ops listed ≠ []) → acc.length + fuel ≤ ops.size → (Region.linearise.go md ops fuel t listed acc).length = acc.length + fuel)
  | 0, t, listed, acc, h => ⟨listed, by simpa [Region.linearise.go] using h, fun _ _ => by simp [Region.linearise.go]⟩
  | fuel + 1, t, listed, acc, h => by
    have hgo : Region.linearise.go md ops (fuel + 1) t listed acc = match (Region.ready md ops listed)[t % (Region.ready md ops listed).length]? with
      | some i => Region.linearise.go md ops fuel (t / (Region.ready md ops listed).length) (listed.setIfInBounds i true) (i :: acc)
      | none => acc.reverse := rfl
    rw [hgo]
    cases hi : (Region.ready md ops listed)[t % (Region.ready md ops listed).length]? with
    | none =>
      refine ⟨listed, by simpa using h, fun hp hle => ?_⟩
      exfalso
      refine hp listed acc h (by omega) ?_
      cases hr : Region.ready md ops listed with
      | nil => rfl
      | cons x xs =>
        rw [hr] at hi
        have hlt : t % (x :: xs).length < (x :: xs).length := Nat.mod_lt _ (by simp)
        simp at hi
        simp at hlt
        omega
    | some i =>
      obtain ⟨listed', h1, h2⟩ := go_listed fuel (t / (Region.ready md ops listed).length) (h.next (List.mem_of_getElem? hi))
      refine ⟨listed', h1, fun hp hle => ?_⟩
      have := h2 hp (by simp; omega)
      simp at this
      simp only []
      omega

theorem ValidR.tail : ∀ {l m : List Nat}, ValidR md ops (l ++ m) → ValidR md ops m
  | [], _, h => h
  | _ :: l, _, h => ValidR.tail (l := l) h.2

/-- where one order takes them all in, none is stuck -/
theorem never_stuck (hfull : (Region.linearise md ops 0).length = ops.size) {listed : Array Bool} {acc : List Nat} (h : Listed md ops listed acc) (hlt : acc.length < ops.size) : Region.ready md ops listed ≠ [] := by
  obtain ⟨lg, hg, _⟩ := go_listed (md := md) (ops := ops) ops.size 0 Listed.start
  have hG : Listed md ops lg (Region.linearise md ops 0).reverse := hg
  generalize Region.linearise md ops 0 = G at hfull hG
  -- the first of G that is not taken
  have : ∀ (pre l : List Nat), G = pre ++ l → (∀ x, x ∈ pre → x ∈ acc) → ∃ i, i ∈ Region.ready md ops listed := by
    intro pre l
    induction l generalizing pre with
    | nil =>
      intro hG' hp
      exfalso
      simp at hG'
      subst hG'
      have := nodup_le (l := G) (m := acc) ((List.reverse_perm G).nodup_iff.1 hG.nodup) hp
      omega
    | cons g l ih =>
      intro hG' hp
      by_cases hga : g ∈ acc
      · exact ih (pre ++ [g]) (by simp [hG']) fun x hx => by
          simp at hx
          rcases hx with hx | rfl
          · exact hp x hx
          · exact hga
      · refine ⟨g, (ready_iff h).2 ⟨hga, ?_⟩⟩
        have hgl : g < ops.size := hG.lt g (by simp [hG'])
        refine ⟨ops[g], Array.getElem?_eq_getElem hgl, fun e he hb => ?_⟩
        have hv := hG.valid
        rw [hG', List.reverse_append, List.reverse_cons, List.append_assoc] at hv
        have hv := ValidR.tail hv
        have := hv.1 _ e (Array.getElem?_eq_getElem hgl) he hb
        exact hp _ (by simpa using this)
  obtain ⟨i, hi⟩ := this [] G rfl (by simp)
  intro hc
  rw [hc] at hi
  cases hi

theorem linearise_ok (hfull : (Region.linearise md ops 0).length = ops.size) (t : Nat) : (Region.linearise md ops t).Perm (List.range ops.size) ∧ ValidR md ops (Region.linearise md ops t).reverse ∧ (Region.linearise md ops t).Nodup := by
  obtain ⟨lg, hg, hl⟩ := go_listed (md := md) (ops := ops) ops.size t Listed.start
  have hl := hl (fun _ _ h hlt => never_stuck hfull h hlt) (by simp)
  have hL : Listed md ops lg (Region.linearise md ops t).reverse := hg
  have hlen : (Region.linearise md ops t).length = ops.size := by simp at hl; exact hl
  have hnd : (Region.linearise md ops t).Nodup := (List.reverse_perm _).nodup_iff.1 hL.nodup
  exact ⟨nodup_perm hnd (fun x hx => List.mem_range.2 (hL.lt x (by simpa using hx))) (by simp [hlen]), hL.valid, hnd⟩

theorem edge_binds {e : Edge} {k : Nat} (h : edgeOf e = some k) : e.on = k ∧ Region.binds md e = true := by
  unfold edgeOf at h
  unfold Region.binds
  split at h
  · cases h
  · cases h
  · cases h
    rename_i h1 h2
    refine ⟨rfl, ?_⟩
    split
    · rename_i r hr; exact absurd hr (h1 r)
    · rename_i r hr; exact absurd hr (h2 r)
    · rfl

/-- whoever stands behind, his forerunners stand ahead -/
theorem anc_mem {an : List Nat} (hu : upOk ops.toList an = true) : ∀ (j : Nat), j < ops.size → ∀ {r : List Nat}, ValidR md ops (j :: r) → (∀ x, x ∈ r → x < ops.size) → ∀ i, i < ops.size → has (an.getD j 0) i = true → i ∈ r := by
  intro j
  induction j using Nat.strongRecOn with
  | _ j ih =>
    intro hj r hv hr i hi hh
    simp only [upOk, List.all_eq_true] at hu
    have h1 := hu (ops[j], j) (List.mem_zipIdx_iff_getElem?.2 (by simp [hj])) i (by simpa using hi)
    rw [hh] at h1
    simp only [Bool.not_true, Bool.false_or, Bool.and_eq_true, decide_eq_true_eq, List.any_eq_true] at h1
    obtain ⟨h2, e, he, h3⟩ := h1
    cases hk : edgeOf e with
    | none => rw [hk] at h3; cases h3
    | some k =>
      rw [hk] at h3
      simp only [Bool.and_eq_true, decide_eq_true_eq, Bool.or_eq_true] at h3
      obtain ⟨hkj, h3⟩ := h3
      obtain ⟨hon, hb⟩ := edge_binds (md := md) hk
      have hmem := hv.1 _ e (Array.getElem?_eq_getElem hj) (by simpa using he) hb
      rw [hon] at hmem
      rcases h3 with h3 | h3
      · rw [Nat.eq_of_beq_eq_true h3]; exact hmem
      · obtain ⟨l, m, rfl⟩ := List.append_of_mem hmem
        have := ih k hkj (hr k hmem) (ValidR.tail hv.2) (fun x hx => hr x (by simp [hx])) i hi h3
        simp [this]

theorem back_of {an : List Nat} (hu : upOk ops.toList an = true) : ∀ {r : List Nat}, ValidR md ops r → r.Nodup → (∀ x, x ∈ r → x < ops.size) → r.Pairwise fun x y => has (an.getD y 0) x = false
  | [], _, _, _ => .nil
  | x :: r, hv, hn, hr => by
    obtain ⟨h1, h2⟩ := List.nodup_cons.1 hn
    refine List.pairwise_cons.2 ⟨fun y hy => ?_, back_of hu hv.2 h2 fun z hz => hr z (by simp [hz])⟩
    cases hh : has (an.getD y 0) x with
    | false => rfl
    | true =>
      exfalso
      obtain ⟨l, m, rfl⟩ := List.append_of_mem hy
      have := anc_mem hu y (hr y (by simp)) (ValidR.tail hv.2) (fun z hz => hr z (by simp [hz])) x (hr x (by simp)) hh
      exact h1 (by simp [this])

end

theorem testBit_bit (i j : Nat) : (bit i).testBit j = decide (i = j) := by
  show Nat.testBit (2 ^ i) j = _
  rw [Nat.testBit_two_pow]

theorem testBit_mask : ∀ (l : List Nat) (j : Nat), (maskOf l).testBit j = true → j ∈ l
  | [], j, h => by simp [maskOf] at h
  | i :: l, j, h => by
    have h : Nat.testBit (bit i ||| maskOf l) j = true := h
    rw [Nat.testBit_or, testBit_bit, Bool.or_eq_true] at h
    rcases h with h | h
    · simp at h; simp [h]
    · simp [testBit_mask l j h]

theorem land_mask {m : Nat} {l : List Nat} (h : ∀ j, j ∈ l → has m j = false) : Nat.beq (Nat.land m (maskOf l)) 0 = true := by
  have : m &&& maskOf l = 0 := by
    apply Nat.eq_of_testBit_eq
    intro j
    rw [Nat.testBit_and]
    cases hj : (maskOf l).testBit j with
    | false => simp
    | true =>
      have := h j (testBit_mask l j hj)
      simp [has] at this
      simp [this]
  show Nat.beq (m &&& maskOf l) 0 = true
  rw [this]; rfl

theorem mem_readyOf {an : List Nat} {left : Nat} {i : Nat} (h : Nat.beq (Nat.land (an.getD i 0) left) 0 = true) : ∀ {l : List Nat}, i ∈ l → i ∈ readyOf an left l
  | j :: l, hi => by
    simp only [readyOf]
    rcases List.mem_cons.1 hi with rfl | hi
    · rw [h]; simp
    · have := mem_readyOf h hi
      split <;> simp [this]

theorem without_perm {i : Nat} : ∀ {l : List Nat}, i ∈ l → l.Perm (i :: without i l)
  | j :: l, hi => by
    simp only [without]
    cases hb : Nat.beq i j with
    | true => rw [Nat.eq_of_beq_eq_true hb]
    | false =>
      have hne : i ≠ j := fun h => by rw [h, Nat.beq_refl] at hb; cases hb
      rcases List.mem_cons.1 hi with rfl | hi
      · exact absurd rfl hne
      · exact ((without_perm hi).cons j).trans (.swap i j _)

theorem mem_orders {an : List Nat} : ∀ (A left done : List Nat), A.Perm left → (∀ i, i ∈ A → has (an.getD i 0) i = false) → Back an A → done ++ A ∈ orders an A.length left done
  | [], left, done, _, _, _ => by simp [orders]
  | i :: A, left, done, hp, hi, hb => by
    have hil : i ∈ left := hp.subset (by simp)
    obtain ⟨h1, h2⟩ := List.pairwise_cons.1 hb
    have hA : A.Perm (without i left) := (List.perm_cons i).1 (hp.trans (without_perm hil))
    simp only [List.length_cons, orders, List.mem_flatMap]
    refine ⟨i, mem_readyOf (land_mask fun j hj => ?_) hil, ?_⟩
    · rcases List.mem_cons.1 (hp.symm.subset hj) with rfl | hj
      · exact hi _ (by simp)
      · exact h1 j hj
    · have := mem_orders A (without i left) (done ++ [i]) hA (fun j hj => hi j (by simp [hj])) h2
      simpa using this

theorem allK_mem {α : Type} {R : α → Prop} : ∀ {l : List α}, allK R l → ∀ a, a ∈ l → R a
  | [], _, a, h => by cases h
  | [b], h, a, ha => by simp at ha; subst ha; exact h
  | b :: c :: l, h, a, ha => by
    have h : R b ∧ allK R (c :: l) := h
    rcases List.mem_cons.1 ha with rfl | ha
    · exact h.1
    · exact allK_mem h.2 a ha

theorem mem_actsOf {P : Program} {i : Nat} : ∀ {l : List Oper} {k : Nat}, i ∈ actsOf P k l ↔ ∃ j o, i = k + j ∧ l[j]? = some o ∧ pureOp P o.op = false
  | [], k => by simp [actsOf]
  | o :: l, k => by
    have ih := mem_actsOf (P := P) (i := i) (l := l) (k := k + 1)
    simp only [actsOf]
    constructor
    · intro h
      cases hp : pureOp P o.op with
      | true =>
        rw [hp] at h
        obtain ⟨j, o', h1, h2, h3⟩ := ih.1 h
        exact ⟨j + 1, o', by omega, by simpa using h2, h3⟩
      | false =>
        rw [hp] at h
        rcases List.mem_cons.1 h with rfl | h
        · exact ⟨0, o, rfl, rfl, hp⟩
        · obtain ⟨j, o', h1, h2, h3⟩ := ih.1 h
          exact ⟨j + 1, o', by omega, by simpa using h2, h3⟩
    · rintro ⟨j, o', h1, h2, h3⟩
      cases j with
      | zero =>
        simp at h2
        subst h2
        rw [h3]
        simp [h1]
      | succ j =>
        have := ih.2 ⟨j, o', by omega, by simpa using h2, h3⟩
        split
        · exact this
        · simp [this]

theorem actsOf_nodup {P : Program} : ∀ {l : List Oper} {k : Nat}, (actsOf P k l).Nodup
  | [], k => .nil
  | o :: l, k => by
    simp only [actsOf]
    split
    · exact actsOf_nodup
    · refine List.nodup_cons.2 ⟨fun h => ?_, actsOf_nodup⟩
      obtain ⟨j, o', h1, _⟩ := mem_actsOf.1 h
      omega

end Go.Am
end
section
namespace Go.Am
open Go

variable {O : Type} (unf : O → List (AO O)) (P : Program)

def AX.exit' : AX → Exit
  | .normal => .normal
  | .exit id => .exit id
  | .ret => .ret

/-- what is left to do, from a state on -/
def Ends (ds : List Deferred) (n : Nat) (κ : Ctx) (S : Nat → Prop) (w : World) (K : AX → Env → Mem O → Prop) (Q : Exit → Act → World → Prop) : Prop :=
  ∀ x κ' S' w' a' e' M', K x e' M' → Rep unf κ' M' w' S' → VRelL κ' e' a'.tmps → a'.defers = ds → Post n κ S w κ' S' w' → n ≤ M'.length → Q x.exit' a' w'

/-- a list of operations, in whatever order -/
def DrawOK : Prop := ∀ (ops : Array Oper) (K : Env → Mem O → Prop) (e : Env) (M : Mem O), drawA P (CallT unf P) ops.toList K e M →
  ∀ (ds : List Deferred) (n : Nat) (κ : Ctx) (S : Nat → Prop) (w : World) (a : Act) (t : Nat) (Q : Exit → Act → World → Prop), Rep unf κ M w S → VRelL κ e a.tmps → a.defers = ds → n ≤ M.length →
    (∀ κ' S' w' a' e' M', K e' M' → Rep unf κ' M' w' S' → VRelL κ' e' a'.tmps → a'.defers = ds → Post n κ S w κ' S' w' → n ≤ M'.length → Q .normal a' w') →
    wpOps P ops Q (Region.schedule (P.follows .mixedOrders) ops t) a w

variable {unf} {P}

theorem Rep.heap {κ : Ctx} {M : Mem O} {w w' : World} {S : Nat → Prop} (h : Rep unf κ M w S) (hw : w'.heap = w.heap) : Rep unf κ M w' S := by
  obtain ⟨h1, ⟨F, h2, h3, h4⟩, h5, h6, h7⟩ := h
  exact ⟨h1, ⟨F, fun i hi => (h2 i hi).keep unf (.refl κ) (fun b _ => by rw [hw]), h3, h4⟩, fun b hb => by rw [hw]; exact h5 b hb, fun b A hb => by rw [hw]; exact h6 b A hb, h7⟩

theorem Post.heap {n : Nat} {κ κ' : Ctx} {S S' : Nat → Prop} {w w0 w' : World} (h : Post n κ S w κ' S' w') (hh : w.heap = w0.heap) (hr : w.tape = w0.tape ∧ w.os = w0.os ∧ w.output = w0.output) : Post n κ S w0 κ' S' w' where
  at_ := h.at_
  imm := h.imm
  sub b hb := by rw [← hh]; exact h.sub b hb
  isub b A hb := by rw [← hh]; exact h.isub b A hb
  same b hb hS := by rw [← hh] at hb ⊢; exact h.same b hb hS
  grow := by rw [← hh]; exact h.grow
  rest := ⟨h.rest.1.trans hr.1, h.rest.2.1.trans hr.2.1, h.rest.2.2.trans hr.2.2⟩

theorem bitK_inv {R : Bool → Prop} {v : AV} (h : bitK R v) : ∃ b, v = .bool b ∧ R b := by
  cases v <;> first | exact h.elim | exact ⟨_, rfl, h⟩

theorem wpA_sound (hD : DrawOK unf P) {ds : List Deferred} {n : Nat} : ∀ (c : Code) {e : Env} {M : Mem O} {K : AX → Env → Mem O → Prop}, wpA P (CallT unf P) (Ent unf) n c e M K →
    ∀ {κ : Ctx} {S : Nat → Prop} {w : World} {a : Act} {Q : Exit → Act → World → Prop}, Rep unf κ M w S → VRelL κ e a.tmps → a.defers = ds → n ≤ M.length → Ends unf ds n κ S w K Q → c.wp P Q a w := by
  intro c
  induction c with
  | skip =>
    intro e M K h κ S w a Q hR hE hd hn hQ
    exact wp_skip (hQ .normal κ S w a e M h hR hE hd (.refl _ _ _ _) hn)
  | region id ops d =>
    intro e M K h κ S w a Q hR hE hd hn hQ
    cases d with
    | false =>
      refine wp_region ?_
      rw [List.range_eq_range', show ops.size = ops.toList.length from by simp]
      exact ops_sound (Q := Q) (n := n) (κ0 := κ) (S0 := S) (w0 := w) (fun κ' S' w' a' e' M' h1 h2 h3 h4 h5 h6 => hQ .normal κ' S' w' a' e' M' h1 h2 h3 h4 h5 h6) ops.toList 0 (by simp) h.out hR hE hd (.refl _ _ _ _) hn
    | true =>
      refine wp_region_draw fun t => ?_
      refine hD ops (K .normal) e M h ds n κ S _ a t Q (hR.heap rfl) hE hd hn fun κ' S' w' a' e' M' h1 h2 h3 h4 h5 h6 => ?_
      exact hQ .normal κ' S' w' a' e' M' h1 h2 h3 h4 (h5.heap rfl ⟨rfl, rfl, rfl⟩) h6
  | seq x y ihx ihy =>
    intro e M K h κ S w a Q hR hE hd hn hQ
    refine wp_seq (ihx h hR hE hd hn fun x κ' S' w' a' e' M' h1 h2 h3 h4 h5 h6 => ?_)
    cases x with
    | normal => exact ihy h1 h2 h3 h4 h6 fun x κ2 S2 w2 a2 e2 M2 g1 g2 g3 g4 g5 g6 => hQ x κ2 S2 w2 a2 e2 M2 g1 g2 g3 g4 (h5.trans g5 (Nat.le_refl _)) g6
    | exit id => exact hQ (.exit id) κ' S' w' a' e' M' h1 h2 h3 h4 h5 h6
    | ret => exact hQ .ret κ' S' w' a' e' M' h1 h2 h3 h4 h5 h6
  | cond c x y ihx ihy =>
    intro e M K h κ S w a Q hR hE hd hn hQ
    obtain ⟨v, h, hv⟩ := evK_sound hE h
    obtain ⟨b, rfl, h⟩ := bitK_inv h
    have hb := hv.bool_inv
    obtain ⟨ht, hf⟩ := testK_iff.1 h
    exact wp_cond_split hb (fun hb => ihx (ht hb) hR hE hd hn hQ) (fun hb => ihy (hf hb) hR hE hd hn hQ)
  | block id c ih =>
    intro e M K h κ S w a Q hR hE hd hn hQ
    refine wp_block (ih h hR hE hd hn fun x κ' S' w' a' e' M' h1 h2 h3 h4 h5 h6 => ?_)
    cases x with
    | normal => exact hQ .normal κ' S' w' a' e' M' h1 h2 h3 h4 h5 h6
    | exit id' =>
      simp only [AX.exit', Exit.inBlock]
      split
      · rename_i hid
        simp only [hid, if_true] at h1
        exact hQ .normal κ' S' w' a' e' M' h1 h2 h3 h4 h5 h6
      · rename_i hid
        simp only [hid, if_false] at h1
        exact hQ (.exit id') κ' S' w' a' e' M' h1 h2 h3 h4 h5 h6
    | ret => exact hQ .ret κ' S' w' a' e' M' h1 h2 h3 h4 h5 h6
  | loop c ih =>
    intro e M K h κ S w a Q hR hE hd hn hQ
    rcases h with h | ⟨k, h⟩
    case inr =>
      have key : ∀ k e M, loopN (wpA P (CallT unf P) (Ent unf) n c) K k e M → ∀ κ' S' w' a', Rep unf κ' M w' S' → VRelL κ' e a'.tmps → a'.defers = ds → n ≤ M.length → Post n κ S w κ' S' w' → Code.rounds P c Q k a' w' := by
        intro k
        induction k with
        | zero => intro e M h; exact h.elim
        | succ k ihk =>
          intro e M h κ' S' w' a' hR' hE' hd' hn' hP
          rw [rounds_succ]
          refine ih h hR' hE' hd' hn' fun x κ2 S2 w2 a2 e2 M2 g1 g2 g3 g4 g5 g6 => ?_
          cases x with
          | normal => exact ihk e2 M2 g1 κ2 S2 w2 a2 g2 g3 g4 g6 (hP.trans g5 (Nat.le_refl _))
          | exit id => exact hQ (.exit id) κ2 S2 w2 a2 e2 M2 g1 g2 g3 g4 (hP.trans g5 (Nat.le_refl _)) g6
          | ret => exact hQ .ret κ2 S2 w2 a2 e2 M2 g1 g2 g3 g4 (hP.trans g5 (Nat.le_refl _)) g6
      exact wp_loop_rounds k (key k e M h κ S w a hR hE hd hn (.refl _ _ _ _))
    obtain ⟨α, I, μ, ⟨a1, e1, M1, hen, hI⟩, hround⟩ := h
    have key : ∀ m a e M, I a e M → μ a < m → ∀ κ' S' w' a', Rep unf κ' M w' S' → VRelL κ' e a'.tmps → a'.defers = ds → n ≤ M.length → Post n κ S w κ' S' w' → Code.rounds P c Q m a' w' := by
      intro m
      induction m with
      | zero => intro a e M _ h; omega
      | succ m ihm =>
        intro a e M hI hμ κ' S' w' a' hR' hE' hd' hn' hP
        rw [rounds_succ]
        refine ih (hround a e M hI) hR' hE' hd' hn' fun x κ2 S2 w2 a2 e2 M2 g1 g2 g3 g4 g5 g6 => ?_
        cases x with
        | normal =>
          obtain ⟨a3, e3, M3, hen, hI3, hlt⟩ := g1
          obtain ⟨hn3, hl3, hent⟩ := hen g6
          obtain ⟨κ3, S3, hR3, hP3, hv3⟩ := hent κ2 S2 w2 g2
          refine ihm a3 e3 M3 hI3 (by omega) κ3 S3 w2 a2 hR3 ⟨by rw [hl3]; exact g3.1, fun i h1 h2 => ?_⟩ g4 hn3 ((hP.trans g5 (Nat.le_refl _)).trans hP3 (Nat.le_refl _))
          exact hv3 i (by omega) h1 _ (g3.2 i (by omega) h2)
        | exit id => exact hQ (.exit id) κ2 S2 w2 a2 e2 M2 g1 g2 g3 g4 (hP.trans g5 (Nat.le_refl _)) g6
        | ret => exact hQ .ret κ2 S2 w2 a2 e2 M2 g1 g2 g3 g4 (hP.trans g5 (Nat.le_refl _)) g6
    obtain ⟨hn3, hl3, hent⟩ := hen hn
    obtain ⟨κ3, S3, hR3, hP3, hv3⟩ := hent κ S w hR
    exact wp_loop_rounds (μ a1 + 1) (key _ a1 e1 M1 hI (Nat.lt_succ_self _) κ3 S3 w a hR3 ⟨by rw [hl3]; exact hE.1, fun i h1 h2 => hv3 i (by omega) h1 _ (hE.2 i (by omega) h2)⟩ hd hn3 hP3)
  | exit id =>
    intro e M K h κ S w a Q hR hE hd hn hQ
    exact wp_exit (hQ (.exit id) κ S w a e M h hR hE hd (.refl _ _ _ _) hn)
  | ret =>
    intro e M K h κ S w a Q hR hE hd hn hQ
    exact wp_ret (hQ .ret κ S w a e M h hR hE hd (.refl _ _ _ _) hn)
  | _ => intro e M K h; exact h.elim

end Go.Am
end
section
namespace Go.Am
open Go

variable {O : Type} {unf : O → List (AO O)} {P : Program}

theorem callT_ok : COk (CallT unf P) := by
  intro f args M R R' h hr κ S w cargs hR hargs
  rcases h κ S w cargs hR hargs with ⟨cv, w', h1, κ', S', v, M', ch, h2, h3, h4, h5, h6⟩ | ⟨h1, h2⟩
  · exact .inl ⟨cv, w', h1, κ', S', v, M', ch, hr v M' ch h2 h6, h3, h4, h5, h6⟩
  · refine .inr ⟨h1, h2.mono fun e w' he => ?_⟩
    obtain ⟨cv, h0, κ', S', v, M', ch, h2, h3, h4, h5, h6⟩ := he
    exact ⟨cv, h0, κ', S', v, M', ch, hr v M' ch h2 h6, h3, h4, h5, h6⟩

/-- an acting operation is an operation -/
theorem actA_oper {C : CallP O} {o : Op} {e : Env} {M : Mem O} {Z : AV → Mem O → Prop} (h : actA P C o e M fun v M' _ => Z v M') : operA P C o e M Z := by
  unfold actA at h
  unfold operA
  cases hc : isCall o with
  | some c => rw [hc] at h; exact h
  | none =>
    rw [hc] at h
    dsimp only at h ⊢
    cases o with
    | store t a x =>
      have h : evK e (fun p => match p with
        | .ptr id _ => evK e (fun v => storeA P t p v M fun v' M' => Z v' M') x
        | _ => False) a := h
      refine evK_to (R' := fun p => evK e (fun v => storeA P t p v M Z) x) h rfl fun p _ h => ?_
      cases p <;> first | exact h.elim | exact h
    | alloc t => exact h
    | box t x => exact h
    | makeSlice t l c => exact h
    | convert s d x => exact h
    | call c =>
      obtain ⟨callee, args, ts⟩ := c
      cases callee with
      | builtin b =>
        cases b <;> first | exact h.elim | skip
        · dsimp only at h
          cases hl : args.toList with
          | nil => rw [hl] at h; exact h.elim
          | cons x r =>
            rw [hl] at h
            obtain ⟨p, _, h⟩ := evK_iff.1 h
            cases p <;> first | exact h.elim | exact h
        · dsimp only at h
          cases hl : args.toList with
          | nil => rw [hl] at h; exact h.elim
          | cons x r =>
            rw [hl] at h
            obtain ⟨p, _, h⟩ := evK_iff.1 h
            cases p <;> first | exact h.elim | exact h
      | _ => exact h.elim
    | _ => exact h.elim

theorem wanted_of {κ : Ctx} {ops : Array Oper} {e : Env} {a : Act} (hE : VRelL κ e a.tmps) {o : Oper} {b : Bool} (h : wantsA ops.toList e o.guard = some b) : Region.wanted o (yielded ops a.tmps) = b := by
  obtain ⟨e', h1, _⟩ := guard_sound (R := fun b' _ => b' = b) hE (guardK_iff.2 ⟨b, h, rfl⟩)
  exact h1

/-- one order is sound -/
theorem run_sound {ds : List Deferred} {ops : Array Oper} {an : List Nat} {K : Env → Mem O → Prop} {Q : Exit → Act → World → Prop} {n : Nat} {κ0 : Ctx} {S0 : Nat → Prop} {w0 : World}
    (hend : ∀ κ S w a e M, K e M → Rep unf κ M w S → VRelL κ e a.tmps → a.defers = ds → Post n κ0 S0 w0 κ S w → n ≤ M.length → Q .normal a w) : ∀ (l : List Nat) {log : Log} {κ : Ctx} {M : Mem O} {w : World} {S : Nat → Prop} {e : Env} {a : Act},
      runA P (CallT unf P) ops.toList an K log l e M → Rep unf κ M w S → VRelL κ e a.tmps → a.defers = ds → Post n κ0 S0 w0 κ S w → n ≤ M.length → wpOps P ops Q l a w
  | [], log, κ, M, w, S, e, a, h, hR, hE, hd, hP, hn => hend κ S w a e M h hR hE hd hP hn
  | i :: l, log, κ, M, w, S, e, a, h, hR, hE, hd, hP, hn => by
    obtain ⟨o, b, h1, h2, h3⟩ := runA_cons.1 h
    have hok : ops[i]? = some o := by simpa using h1
    have hw := wanted_of hE h2
    simp only [wpOps, hok, hw]
    cases b with
    | false =>
      simp only [Bool.false_eq_true, if_false]
      have h3 : putE (fun e' => runA P (CallT unf P) ops.toList an K log l e' M) undefA e o.dst := h3
      obtain ⟨e2, h4, hE2⟩ := VRelL.put hE (undef_rel κ) h3
      exact run_sound hend l h4 hR hE2 (by rw [put_defers]; exact hd) hP hn
    | true =>
      simp only [if_true]
      refine .inl ?_
      unfold StepD at h3
      dsimp only at h3
      cases hp : pureOp P o.op with
      | false =>
        rw [hp] at h3
        have h4 : operA P (CallT unf P) o.op e M fun v M' => putE (fun e' => runA P (CallT unf P) ops.toList an K log l e' M') v e o.dst := by
          refine actA_oper (actA_to callT_ok h3 (fun _ _ => rfl) fun v M' ch h _ => ?_)
          exact (payK_iff.1 h).2
        refine oper_sound hR hE h4 fun κ' S' w' v cv M' hK hR' hv hle hP' hlen => ?_
        obtain ⟨e2, h5, hE2⟩ := VRelL.put (hE.le hle) hv hK
        exact run_sound hend l h5 hR' hE2 (by rw [put_defers]; exact hd) (hP.trans hP' hn) (by omega)
      | true =>
        rw [hp] at h3
        obtain ⟨L, h3, _⟩ := Det.reads e o.op _ h3
        by_cases hv : notVs o.op = true
        · have h4 := pureA_op hp hv h3
          have hnc : isCall o.op = none := by
            cases hc : isCall o.op with
            | none => rfl
            | some c =>
              exfalso
              unfold isCall at hc
              split at hc
              · rename_i c' hop
                split at hc
                · rename_i x hx; rw [hop] at hp; simp [pureOp, hx] at hp
                · cases hc
              · cases hc
          have h5 : operA P (CallT unf P) o.op e M fun v M' => M' = M ∧ putE (fun e' => runA P (CallT unf P) ops.toList an K (addLog i L log) l e' M) v e o.dst := by
            unfold operA; rw [hnc]; exact h4
          refine oper_sound hR hE h5 fun κ' S' w' v cv M' hK hR' hv hle hP' hlen => ?_
          obtain ⟨hM, hK⟩ := hK
          subst hM
          obtain ⟨e2, h5, hE2⟩ := VRelL.put (hE.le hle) hv hK
          exact run_sound hend l h5 hR' hE2 (by rw [put_defers]; exact hd) (hP.trans hP' hn) (by omega)
        · cases hop : o.op with
          | buildSlice t len ps =>
            rw [hop] at h3
            obtain ⟨l', h3, hl'⟩ := partsK_sound hE h3
            obtain ⟨κ', v, cv, w', hK, hR', hv, hle, _, hP', hrun⟩ := buildVs_sound (a := a) hR h3 hl'
            obtain ⟨e2, h5, hE2⟩ := VRelL.put (hE.le hle) hv hK
            have done := run_sound hend l h5 hR' hE2 (by rw [put_defers]; exact hd) (hP.trans hP' hn) (by omega)
            unfold Oper.wp
            rcases hrun o hop with h1 | ⟨h1, rfl⟩
            · rw [h1, Oper.upon_value]; exact done
            · rw [h1, Oper.upon_skip]; exact done
          | _ => rw [hop] at hv; exact absurd rfl hv

theorem schedule_mode (mixed : Bool) (ops : Array Oper) (t : Nat) : ∃ md t', Region.schedule mixed ops t = Region.linearise md ops t' := by
  unfold Region.schedule
  split
  · exact ⟨_, _, rfl⟩
  · exact ⟨_, _, rfl⟩

theorem draw_sound : DrawOK unf P := by
  intro ops K e M h ds n κ S w a t Q hR hE hd hn hend
  unfold drawA at h
  dsimp only at h
  generalize han : ancs [] ops.toList = an at h
  obtain ⟨hok, h⟩ := payK_iff.1 h
  rw [drawOk] at hok
  simp only [Bool.and_eq_true, List.all_eq_true] at hok
  obtain ⟨⟨⟨⟨⟨hup, hslot⟩, hany⟩, htext⟩, hgc⟩, hplans⟩ := hok
  have hfull : ∀ md, (Region.linearise md ops 0).length = ops.size := by
    intro md
    have : fullOk ops.toList md = true := by cases md <;> assumption
    have := Nat.eq_of_beq_eq_true this
    simpa using this
  obtain ⟨md, t', ht⟩ := schedule_mode (P.follows .mixedOrders) ops t
  rw [ht]
  obtain ⟨hperm, hvalid, hnd⟩ := linearise_ok (hfull md) t'
  generalize Region.linearise md ops t' = L at hperm hvalid hnd
  have hlt : ∀ x, x ∈ L → x < ops.size := fun x hx => List.mem_range.1 (hperm.subset hx)
  have hback : Back an L := by
    have := back_of hup hvalid ((List.reverse_perm L).nodup_iff.2 hnd) fun x hx => hlt x (by simpa using hx)
    rw [List.pairwise_reverse] at this
    exact this
  have hacts : ∀ i, (actsOf P 0 ops.toList).contains i = true ↔ ∃ o, ops[i]? = some o ∧ pureOp P o.op = false := by
    intro i
    rw [List.contains_iff_mem, mem_actsOf]
    constructor
    · rintro ⟨j, o, h1, h2, h3⟩
      exact ⟨o, by rw [h1]; simpa using h2, h3⟩
    · rintro ⟨o, h2, h3⟩
      exact ⟨i, o, by omega, by simpa using h2, h3⟩
  have hA : (L.filter fun x => (actsOf P 0 ops.toList).contains x).Perm (actsOf P 0 ops.toList) := by
    refine (List.perm_ext_iff_of_nodup (hnd.filter _) actsOf_nodup).2 fun i => ?_
    rw [List.mem_filter]
    constructor
    · intro h; simpa using h.2
    · intro h
      have hc : (actsOf P 0 ops.toList).contains i = true := by simpa using h
      obtain ⟨o, h1, _⟩ := (hacts i).1 hc
      exact ⟨hperm.symm.subset (List.mem_range.2 (Array.getElem?_eq_some_iff.1 h1).1), hc⟩
  have hirr : ∀ i, i < ops.size → has (an.getD i 0) i = false := by
    intro i hi
    cases hh : has (an.getD i 0) i with
    | false => rfl
    | true =>
      exfalso
      simp only [upOk, List.all_eq_true] at hup
      have := hup (ops[i], i) (List.mem_zipIdx_iff_getElem?.2 (by simp [hi])) i (by simpa using hi)
      rw [hh] at this
      simp at this
  have hord := mem_orders (an := an) (L.filter fun x => (actsOf P 0 ops.toList).contains x) (actsOf P 0 ops.toList) [] hA (fun i hi => hirr i (hlt i (List.mem_filter.1 hi).1)) (hback.filter _)
  rw [List.nil_append, hA.length_eq] at hord
  have hrun := allK_mem h _ hord
  have hplan := hplans _ hord
  unfold planOk at hplan
  dsimp only at hplan
  simp only [Bool.and_eq_true] at hplan
  obtain ⟨⟨⟨hp1, hp2⟩, hp3⟩, hp4⟩ := hplan
  generalize plan an (maskOf (actsOf P 0 ops.toList)) 0 0 (L.filter fun x => (actsOf P 0 ops.toList).contains x) = pl at hrun hp1 hp2 hp3 hp4
  have hpl : pl.Perm L := (List.isPerm_iff.1 hp1).trans (by simpa using hperm.symm)
  have hbk : ∀ {l : List Nat}, backOk an l = true → Back an l := by
    intro l
    induction l with
    | nil => intro _; exact .nil
    | cons x l ih =>
      intro h
      simp only [backOk, Bool.and_eq_true, List.all_eq_true] at h
      exact List.pairwise_cons.2 ⟨fun y hy => by simpa using h.1 y hy, ih h.2⟩
  have hfin := runA_sort callT_ok (slotOk_spec hslot) (act := fun x => (actsOf P 0 ops.toList).contains x) (fun x hx o ho => by
    cases hp : pureOp P o.op with
    | true => rfl
    | false =>
      have := (hacts x).2 ⟨o, by simpa using ho, hp⟩
      rw [this] at hx; cases hx) L pl hpl hnd hback (hbk hp2) (eager_of hp3) (by simpa using hp4) hrun
  exact run_sound (n := n) (κ0 := κ) (S0 := S) (w0 := w) (fun κ' S' w' a' e' M' h1 h2 h3 h4 h5 h6 => hend κ' S' w' a' e' M' h1 h2 h3 h4 h5 h6) L hfin hR hE hd (.refl _ _ _ _) hn

end Go.Am
end
section
namespace Go.Am
open Go

variable {O : Type} (unf : O → List (AO O))

/-- a value seen by other numbers ('τ': a number here, the number there), or not known any more -/
inductive Low (τ : List Nat) : AV → AV → Prop
  | und (v) : Low τ .und v
  | int (k n) : Low τ (.int k n) (.int k n)
  | bool (b) : Low τ (.bool b) (.bool b)
  | str (s) : Low τ (.str s) (.str s)
  | nilP : Low τ .nilP .nilP
  | ptr {i j off} : τ[i]? = some j → Low τ (.ptr i off) (.ptr j off)
  | pv {cs cs'} : cs.length = cs'.length → (∀ i (h : i < cs.length) (h' : i < cs'.length), Low τ cs[i] cs'[i]) → Low τ (.pv cs) (.pv cs')
  | nilS : Low τ .nilS .nilS
  | sl {i j off len cap} : τ[i]? = some j → Low τ (.sl i off len cap) (.sl j off len cap)
  | vs {cs cs' n} : cs.length = cs'.length → (∀ i (h : i < cs.length) (h' : i < cs'.length), Low τ cs[i] cs'[i]) → Low τ (.vs cs n) (.vs cs' n)
  | fn {f cs cs'} : cs.length = cs'.length → (∀ i (h : i < cs.length) (h' : i < cs'.length), Low τ cs[i] cs'[i]) → Low τ (.fn f cs) (.fn f cs')
  | nilF : Low τ .nilF .nilF
  | nilI : Low τ .nilI .nilI
  | ifc {t v v'} : Low τ v v' → Low τ (.ifc t v) (.ifc t v')
  | agg {cs cs'} : cs.length = cs'.length → (∀ i (h : i < cs.length) (h' : i < cs'.length), Low τ cs[i] cs'[i]) → Low τ (.agg cs) (.agg cs')
  | tup {cs cs'} : cs.length = cs'.length → (∀ i (h : i < cs.length) (h' : i < cs'.length), Low τ cs[i] cs'[i]) → Low τ (.tup cs) (.tup cs')

def LowL (τ : List Nat) (cs cs' : List AV) : Prop := cs.length = cs'.length ∧ ∀ i (h : i < cs.length) (h' : i < cs'.length), Low τ cs[i] cs'[i]

theorem LowL.nil (τ : List Nat) : LowL τ [] [] := ⟨rfl, fun i h => by simp at h⟩
theorem LowL.cons {τ : List Nat} {v v' : AV} {cs cs' : List AV} (h : Low τ v v') (hs : LowL τ cs cs') : LowL τ (v :: cs) (v' :: cs') := by
  refine ⟨by simp [hs.1], fun i h1 h2 => ?_⟩
  cases i with
  | zero => exact h
  | succ i => exact hs.2 i (by simpa using h1) (by simpa using h2)
theorem LowL.app {τ : List Nat} {as as' cs cs' : List AV} (h : LowL τ as as') (hs : LowL τ cs cs') : LowL τ (as ++ cs) (as' ++ cs') := by
  refine ⟨by simp [hs.1, h.1], fun i h1 h2 => ?_⟩
  by_cases hi : i < as.length
  · rw [List.getElem_append_left hi, List.getElem_append_left (by rw [← h.1]; exact hi)]
    exact h.2 i hi _
  · rw [List.getElem_append_right (by omega), List.getElem_append_right (by rw [← h.1]; omega)]
    have := hs.2 (i - as.length) (by simp at h1; omega) (by rw [← hs.1]; simp at h1; omega)
    simpa only [h.1] using this

/-- values without numbers -/
inductive Flat : AV → Prop
  | int (k n) : Flat (.int k n)
  | bool (b) : Flat (.bool b)
  | str (s) : Flat (.str s)
  | nilP : Flat .nilP
  | nilS : Flat .nilS
  | nilF : Flat .nilF
  | nilI : Flat .nilI
  | und : Flat .und

theorem Flat.low {τ : List Nat} {v : AV} (h : Flat v) : Low τ v v := by
  cases h <;> constructor

theorem LowL.flat {τ : List Nat} {cs : List AV} (h : ∀ v, v ∈ cs → Flat v) : LowL τ cs cs := ⟨rfl, fun _ h1 _ => (h _ (List.getElem_mem h1)).low⟩

theorem flat_encB (s : List UInt8) : ∀ v, v ∈ encB s → Flat v := by
  intro v hv
  simp [encB] at hv
  obtain ⟨b, _, rfl⟩ := hv
  exact .int _ _

/-- a context by other numbers -/
def Ctx.by (κ : Ctx) (τ : List Nat) : Ctx := { κ with at_ := fun i => match τ[i]? with | some j => κ.at_ j | none => none }

theorem Ctx.by_some {κ : Ctx} {τ : List Nat} {i j : Nat} (h : τ[i]? = some j) : (κ.by τ).at_ i = κ.at_ j := by simp [Ctx.by, h]

theorem VRel.low {κ : Ctx} {τ : List Nat} {v v' : AV} {cv : Value} (hv : VRel κ v' cv) (h : Low τ v v') : VRel (κ.by τ) v cv := by
  induction h generalizing cv with
  | und v => exact .und _
  | int k n => cases hv; exact .int _ _
  | bool b => cases hv; exact .bool _
  | str s => cases hv; exact .str _
  | nilP => cases hv; exact .nilP
  | ptr h => cases hv with | ptr h1 => exact .ptr ((Ctx.by_some h).trans h1)
  | pv hl h ih =>
    cases hv with
    | pv f h1 h2 h3 => exact .pv f h1 (fun i hi => h2 i (hl ▸ hi)) fun i hi => ih i hi (hl ▸ hi) (h3 i (hl ▸ hi))
  | nilS => cases hv; exact .nilS
  | sl h =>
    cases hv with
    | sl h1 h2 h3 => exact .sl h1 ((Ctx.by_some h).trans h2) h3
    | slz h2 h3 => exact .slz ((Ctx.by_some h).trans h2) h3
    | slr h1 h2 h3 h4 h5 => exact .slr h1 ((Ctx.by_some h).trans h2) h3 h4 h5
  | @vs cs cs' n hl h ih =>
    cases hv with
    | vs f h0 h1 h2 h3 => exact .vs f h0 h1 (fun i hi => h2 i (hl ▸ hi)) fun i hi => ih i hi (hl ▸ hi) (h3 i (hl ▸ hi))
    | vs0 =>
      obtain rfl : cs = [] := List.length_eq_zero_iff.1 (by simpa using hl)
      exact .vs0
  | fn hl h ih =>
    cases hv with
    | fn h1 h2 => exact .fn (hl.trans h1) fun i hi hi' => ih i hi (hl ▸ hi) (h2 i (hl ▸ hi) hi')
  | nilF => cases hv; exact .nilF
  | nilI => cases hv; exact .nilI
  | ifc h ih => cases hv with | ifc h1 => exact .ifc (ih h1)
  | agg hl h ih =>
    cases hv with
    | agg h1 h2 h3 => exact .agg (hl.trans h1) h2 fun i hi hi' => ih i hi (hl ▸ hi) (h3 i (hl ▸ hi) hi')
  | tup hl h ih =>
    cases hv with
    | tup h1 h3 => exact .tup (hl.trans h1) fun i hi hi' => ih i hi (hl ▸ hi) (h3 i (hl ▸ hi) hi')

/-- an object seen so -/
inductive LowO (τ : List Nat) : AO O → AO O → Prop
  | dead (o) : LowO τ .dead o
  | cells {ek cs cs'} : LowL τ cs cs' → LowO τ (.cells ek cs) (.cells ek cs')
  | obj (o) : LowO τ (.obj o) (.obj o)

variable {unf}

theorem Own.low {κ : Ctx} {τ : List Nat} {o o' : AO O} {i j : Nat} {F : Nat → Prop} {w : World} (h : Own unf κ o' j F w) (hl : LowO τ o o') (hi : τ[i]? = some j) : Own unf (κ.by τ) o i F w := by
  cases hl with
  | dead o => exact .dead
  | @cells ek cs cs' hc =>
    cases h with
    | cells L A t fz f h1 h2 h3 h4 h5 h6 h7 h8 =>
      exact .cells L A t fz f ((Ctx.by_some hi).trans h1) h2 h3 h4 h5 (fun k hk => h6 k (hc.1 ▸ hk)) (fun k hk => (h7 k (hc.1 ▸ hk)).low (hc.2 k hk (hc.1 ▸ hk))) h8
  | obj o =>
    cases h with
    | obj κi Fi L h1 h2 h3 h4 h5 h6 h7 => exact .obj κi Fi L ((Ctx.by_some hi).trans h1) h2 h3 h4 h5 h6 h7

/-- a memory seen so: what is dead here may be anything there -/
structure LowM (τ : List Nat) (M M' : Mem O) : Prop where
  len : τ.length = M.length
  nodup : τ.Nodup
  low : ∀ i (h : i < M.length) (h' : i < τ.length), M[i] = .dead ∨ ∃ o, M'[τ[i]]? = some o ∧ LowO τ M[i] o

/-- the part of a memory that is seen -/
theorem Rep.low {κ : Ctx} {M M' : Mem O} {w : World} {S : Nat → Prop} {τ : List Nat} (hR : Rep unf κ M' w S) (hl : LowM τ M M') : ∃ S', Rep unf (κ.by τ) M w S' ∧ (∀ b, S' b → S b) ∧
    ∃ F : Nat → Nat → Prop, (∀ i (h : i < M'.length), Own unf κ M'[i] i (F i) w) ∧ (∀ i j b, i ≠ j → F i b → ¬F j b) ∧ (∀ i b, F i b → S b) ∧ (∀ b, S' b ↔ ∃ i, ∃ (h : i < M.length) (h' : i < τ.length), M[i] ≠ .dead ∧ F τ[i] b) := by
  obtain ⟨h1, ⟨F, h2, h3, h4⟩, h5, h6, h7⟩ := hR
  refine ⟨fun b => ∃ i, ∃ (h : i < M.length) (h' : i < τ.length), M[i] ≠ .dead ∧ F τ[i] b, ⟨fun i hi => ?_, ⟨fun i b => ∃ (h : i < M.length) (h' : i < τ.length), M[i] ≠ .dead ∧ F τ[i] b, fun i hi => ?_, ?_, ?_⟩, ?_, ?_, h7⟩, ?_, F, h2, h3, h4, fun b => Iff.rfl⟩
  · have : τ[i]? = none := List.getElem?_eq_none (by rw [hl.len]; exact hi)
    simp [Ctx.by, this]
  · have hi' : i < τ.length := by rw [hl.len]; exact hi
    rcases hl.low i hi hi' with hd | ⟨o, ho, hlo⟩
    · rw [hd]; exact .dead
    · by_cases hd : M[i] = .dead
      · rw [hd]; exact .dead
      obtain ⟨hj, hoj⟩ := List.getElem?_eq_some_iff.1 ho
      have := h2 _ hj
      rw [hoj] at this
      exact (this.low hlo (List.getElem?_eq_getElem hi')).mono unf fun b hb => ⟨hi, hi', hd, hb⟩
  · rintro i j b hij ⟨hi, hi', _, hb⟩ ⟨hj, hj', _, hb'⟩
    refine h3 _ _ b (fun hc => hij ?_) hb hb'
    exact (List.getElem_inj hl.nodup).1 hc
  · rintro i b ⟨hi, hi', hd, hb⟩
    exact ⟨i, hi, hi', hd, hb⟩
  · rintro b ⟨i, hi, hi', _, hb⟩
    exact h5 b (h4 _ _ hb)
  · intro b A hb
    obtain ⟨g1, g2⟩ := h6 b A hb
    exact ⟨fun ⟨i, hi, hi', _, hb'⟩ => g1 (h4 _ _ hb'), g2⟩
  · rintro b ⟨i, hi, hi', _, hb⟩
    exact h4 _ _ hb

/-- a view is a weaker memory -/
theorem Ent.low {n : Nat} {e e' : Env} {M M' : Mem O} {τ : List Nat} (hM : LowM τ M' M) (he : LowL τ e' e) (hn : n ≤ M'.length) (hτ : ∀ i, i < n → τ[i]? = some i) : Ent unf n e M e' M' := by
  intro _
  refine ⟨hn, he.1, fun κ S w hR => ?_⟩
  obtain ⟨S', hR', hS, _⟩ := hR.low hM
  refine ⟨κ.by τ, S', hR', ⟨fun i hi => Ctx.by_some (hτ i hi), fun _ _ h => h, fun b hb => .inl (hS b hb), fun b A h => .inl h, fun _ _ _ => rfl, Nat.le_refl _, rfl, rfl, rfl⟩, fun i h1 h2 cv hv => hv.low (he.2 i h2 h1)⟩

theorem Ent.trans {n : Nat} {e e' e'' : Env} {M M' M'' : Mem O} (h : Ent unf n e M e' M') (h' : Ent unf n e' M' e'' M'') : Ent unf n e M e'' M'' := by
  intro hn
  obtain ⟨h1, h2, h3⟩ := h hn
  obtain ⟨h4, h5, h6⟩ := h' h1
  refine ⟨h4, h5.trans h2, fun κ S w hR => ?_⟩
  obtain ⟨κ', S', hR', hP, hv⟩ := h3 κ S w hR
  obtain ⟨κ'', S'', hR'', hP', hv'⟩ := h6 κ' S' w hR'
  exact ⟨κ'', S'', hR'', hP.trans hP' (Nat.le_refl _), fun i a b cv h => hv' i (by omega) b cv (hv i a (by omega) cv h)⟩

theorem Ent.refl (n : Nat) (e : Env) (M : Mem O) : Ent unf n e M e M := fun hn => ⟨hn, rfl, fun κ S _ hR => ⟨κ, S, hR, .refl _ _ _ _, fun _ _ _ _ h => h⟩⟩

/-- objects are folded: the first number is the object's, the others are no more -/
def foldM (τ : List Nat) (o : O) (M : Mem O) : Mem O := M.zipIdx.map fun (x, i) => if τ.head? = some i then .obj o else if i ∈ τ then .dead else x

theorem foldM_length (τ : List Nat) (o : O) (M : Mem O) : (foldM τ o M).length = M.length := by simp [foldM]
theorem foldM_get (τ : List Nat) (o : O) (M : Mem O) (i : Nat) (h : i < M.length) : (foldM τ o M)[i]'(by rw [foldM_length]; exact h) = if τ.head? = some i then .obj o else if i ∈ τ then .dead else M[i] := by simp [foldM]

theorem Ent.fold {n : Nat} {e : Env} {M : Mem O} {o : O} {r : Nat} {cs : List Nat} (hM : LowM (r :: cs) (unf o) M) (hd : ∀ h, (unf o)[0]'h ≠ .dead) (hn : n ≤ M.length) : Ent unf n e M e (foldM (r :: cs) o M) := by
  intro _
  refine ⟨by rw [foldM_length]; exact hn, rfl, fun κ S w hR => ⟨κ, S, ?_, .refl _ _ _ _, fun _ _ _ _ h => h⟩⟩
  obtain ⟨S', hR', hS, F, h2, h3, h4, hS'⟩ := hR.low hM
  have hlen : 0 < (unf o).length := by rw [← hM.len]; simp
  have hr : ∃ ob, M[r]? = some ob ∧ LowO (r :: cs) (unf o)[0] ob := by
    rcases hM.low 0 hlen (by simp) with h | h
    · exact absurd h (hd hlen)
    · simpa using h
  obtain ⟨ob, hr, hlow⟩ := hr
  obtain ⟨hrl, hre⟩ := List.getElem?_eq_some_iff.1 hr
  -- where the root lies
  have hL : ∃ L, κ.at_ r = some L := by
    have := h2 r hrl
    rw [hre] at this
    have hx := hd hlen
    generalize (unf o)[0] = x0 at hlow hx
    cases hlow with
    | dead => exact absurd rfl hx
    | cells _ => cases this with | cells L _ _ _ _ h => exact ⟨L, h⟩
    | obj _ => cases this with | obj _ _ L h => exact ⟨L, h⟩
  obtain ⟨L, hL⟩ := hL
  refine ⟨fun i hi => hR.dom i (by rw [foldM_length] at hi; exact hi), ⟨fun i b => if i = r then S' b else if i ∈ (r :: cs) then False else F i b, fun i hi => ?_, ?_, ?_⟩, hR.lt, hR.imm, hR.glob⟩
  · rw [foldM_length] at hi
    rw [foldM_get _ _ _ _ hi]
    by_cases hir : i = r
    · subst hir
      simp only [List.head?_cons, if_true]
      obtain ⟨hdom, ⟨Fi, g1, g2, g3⟩, hlt, himm, _⟩ := hR'
      exact .obj (κ.by (i :: cs)) Fi L hL rfl (by rw [Ctx.by_some (j := i) (by simp)]; exact hL) hdom g1 g2 g3
    · simp only [List.head?_cons, Option.some.injEq, Ne.symm hir, if_false, hir]
      by_cases hmem : i ∈ r :: cs
      · rw [if_pos hmem]; exact .dead
      · rw [if_neg hmem]
        exact (h2 i hi).mono unf fun b hb => by simp only [if_neg hmem]; exact hb
  · intro i j b hij hi hj
    have key : ∀ k, k ∉ r :: cs → F k b → ¬S' b := by
      intro k hk hkb hs
      obtain ⟨x, hx, hx', _, hxb⟩ := (hS' b).1 hs
      refine h3 k _ b (fun hc => hk ?_) hkb hxb
      rw [hc]; exact List.getElem_mem hx'
    by_cases hir : i = r
    · rw [if_pos hir] at hi
      have hjr : j ≠ r := fun h => hij (hir.trans h.symm)
      rw [if_neg hjr] at hj
      by_cases hmem : j ∈ r :: cs
      · rw [if_pos hmem] at hj; exact hj
      · rw [if_neg hmem] at hj; exact key j hmem hj hi
    · rw [if_neg hir] at hi
      by_cases hmem : i ∈ r :: cs
      · rw [if_pos hmem] at hi; exact hi
      · rw [if_neg hmem] at hi
        by_cases hjr : j = r
        · rw [if_pos hjr] at hj; exact key i hmem hi hj
        · rw [if_neg hjr] at hj
          by_cases hmem' : j ∈ r :: cs
          · rw [if_pos hmem'] at hj; exact hj
          · rw [if_neg hmem'] at hj; exact h3 i j b hij hi hj
  · intro i b hb
    by_cases hir : i = r
    · rw [if_pos hir] at hb; exact hS b hb
    · rw [if_neg hir] at hb
      by_cases hmem : i ∈ r :: cs
      · rw [if_pos hmem] at hb; exact hb.elim
      · rw [if_neg hmem] at hb; exact h4 i b hb

end Go.Am
end
section
namespace Go.Am
open Go

mutual
/-- a value with its numbers changed -/
def renV (τ : List Nat) : AV → AV
  | .ptr i off => .ptr (τ.getD i 0) off
  | .sl i off len cap => .sl (τ.getD i 0) off len cap
  | .pv cs => .pv (renVs τ cs)
  | .vs cs n => .vs (renVs τ cs) n
  | .fn f first => .fn f (renVs τ first)
  | .ifc t v => .ifc t (renV τ v)
  | .agg cs => .agg (renVs τ cs)
  | .tup cs => .tup (renVs τ cs)
  | .int k n => .int k n
  | .bool b => .bool b
  | .str s => .str s
  | .nilP => .nilP
  | .nilS => .nilS
  | .nilF => .nilF
  | .nilI => .nilI
  | .und => .und
def renVs (τ : List Nat) : List AV → List AV
  | [] => []
  | v :: r => renV τ v :: renVs τ r
end

theorem renVs_map (τ : List Nat) : ∀ l : List AV, renVs τ l = l.map (renV τ)
  | [] => rfl
  | v :: r => by rw [renVs, renVs_map τ r]; rfl

theorem Flat.ren {τ : List Nat} {v : AV} (h : Flat v) : renV τ v = v := by cases h <;> rfl
theorem renVs_flat {τ : List Nat} {cs : List AV} (h : ∀ v, v ∈ cs → Flat v) : renVs τ cs = cs := by
  rw [renVs_map]
  conv => rhs; rw [← List.map_id cs]
  exact List.map_congr_left fun v hv => (h v hv).ren
theorem renVs_encB (τ : List Nat) (s : List UInt8) : renVs τ (encB s) = encB s := renVs_flat (flat_encB s)

/-- numbers here lie there -/
def Rens (τ : List Nat) (κ κ' : Ctx) : Prop := (∀ i L, κ.at_ i = some L → κ'.at_ (τ.getD i 0) = some L) ∧ ∀ b A, κ.imm b = some A → κ'.imm b = some A

theorem VRel.ren {τ : List Nat} {κ κ' : Ctx} (hr : Rens τ κ κ') {v : AV} {cv : Value} (h : VRel κ v cv) : VRel κ' (renV τ v) cv := by
  induction h with
  | int k n => exact .int _ _
  | bool b => exact .bool _
  | str s => exact .str _
  | nilP => exact .nilP
  | ptr h => exact .ptr (hr.1 _ _ h)
  | pv f h h1 _ ih =>
    simp only [renV, renVs_map]
    exact .pv f (hr.2 _ _ h) (fun i hi => h1 i (by simpa using hi)) fun i hi => by simpa using ih i (by simpa using hi)
  | nilS => exact .nilS
  | sl h0 h h1 => exact .sl h0 (hr.1 _ _ h) h1
  | slz h h1 => exact .slz (hr.1 _ _ h) h1
  | slr h0 h h1 h2 h3 => exact .slr h0 (hr.1 _ _ h) h1 h2 h3
  | vs f h0 h h1 _ ih =>
    simp only [renV, renVs_map]
    exact .vs f h0 (hr.2 _ _ h) (fun i hi => h1 i (by simpa using hi)) fun i hi => by simpa using ih i (by simpa using hi)
  | vs0 => exact .vs0
  | fn h _ ih =>
    simp only [renV, renVs_map]
    exact .fn (by simpa using h) fun i hi hi' => by simpa using ih i (by simpa using hi) hi'
  | nilF => exact .nilF
  | nilI => exact .nilI
  | ifc _ ih => exact .ifc ih
  | agg h h1 _ ih =>
    simp only [renV, renVs_map]
    exact .agg (by simpa using h) h1 fun i hi hi' => by simpa using ih i (by simpa using hi) hi'
  | tup h _ ih =>
    simp only [renV, renVs_map]
    exact .tup (by simpa using h) fun i hi hi' => by simpa using ih i (by simpa using hi) hi'
  | und v => exact .und v

variable {O : Type} {unf : O → List (AO O)} {P : Program}

def renO (τ : List Nat) : AO O → AO O
  | .dead => .dead
  | .cells ek cs => .cells ek (renVs τ cs)
  | .obj o => .obj o

theorem Own.ren {τ : List Nat} {κ κ' : Ctx} (hr : Rens τ κ κ') {x : AO O} {i : Nat} {F : Nat → Prop} {w : World} (h : Own unf κ x i F w) : Own unf κ' (renO τ x) (τ.getD i 0) F w := by
  cases h with
  | dead => exact .dead
  | cells L A t fz f h1 h2 h3 h4 h5 h6 h7 h8 =>
    exact .cells L A t fz f (hr.1 _ _ h1) h2 h3 h4 h5 (fun k hk => h6 k (by simpa [renVs_map] using hk)) (fun k hk => by simpa [renVs_map] using (h7 k (by simpa [renVs_map] using hk)).ren hr) h8
  | @obj _ o _ _ _ κi Fi L h1 h2 h3 h4 h5 h6 h7 =>
    refine .obj { κi with imm := κ'.imm } Fi L (hr.1 _ _ h1) rfl h3 h4 (fun k hk => (h5 k hk).keep unf ⟨fun _ _ h => h, fun b A hb => hr.2 b A (h2 ▸ hb)⟩ fun _ _ => rfl) h6 h7

/-- an object's parts: they come behind all others -/
def unfoldM (unf : O → List (AO O)) (id : Nat) (o : O) (M : Mem O) : Mem O :=
  let τ := id :: (List.range ((unf o).length - 1)).map (M.length + ·)
  match unf o with
  | [] => M
  | x :: r => M.set id (renO τ x) ++ r.map (renO τ)

theorem Ent.unfold {n : Nat} {e : Env} {M : Mem O} {o : O} {id : Nat} (hM : M[id]? = some (.obj o)) (hn : n ≤ M.length) : Ent unf n e M e (unfoldM unf id o M) := by
  intro _
  have hlen : M.length ≤ (unfoldM unf id o M).length := by
    unfold unfoldM
    dsimp only
    cases unf o <;> simp
  refine ⟨by omega, rfl, fun κ S w hR => ?_⟩
  obtain ⟨hid, hMo⟩ := List.getElem?_eq_some_iff.1 hM
  obtain ⟨h1, ⟨F, h2, h3, h4⟩, h5, h6, h7⟩ := hR
  have hown := h2 id hid
  rw [hMo] at hown
  cases hown with
  | obj κi Fi L g1 g2 g3 g4 g5 g6 g7 =>
    cases hu : unf o with
    | nil => rw [g4 0 (by rw [hu]; simp)] at g3; cases g3
    | cons x r =>
      let τ := id :: (List.range r.length).map (M.length + ·)
      have hM' : unfoldM unf id o M = M.set id (renO τ x) ++ r.map (renO τ) := by
        unfold unfoldM; simp [hu, τ]
      rw [hM']
      let κ' : Ctx := { κ with at_ := fun i => if i < M.length then κ.at_ i else κi.at_ (i - M.length + 1) }
      have hrens : Rens τ κi κ' := by
        refine ⟨fun i L' hi => ?_, fun b A hb => by rw [g2] at hb; exact hb⟩
        have hlt : i < r.length + 1 := by
          rcases Nat.lt_or_ge i (r.length + 1) with h | h
          · exact h
          · rw [g4 i (by rw [hu]; simpa using h)] at hi; cases hi
        cases i with
        | zero => rw [g3] at hi; cases hi; simp [τ, κ', hid, g1]
        | succ i =>
          have : τ.getD (i + 1) 0 = M.length + i := by simp [τ, show i < r.length by omega]
          rw [this]
          simp only [κ', show ¬(M.length + i < M.length) by omega, if_false, show M.length + i - M.length + 1 = i + 1 by omega, hi]
      have hle : κ.Le κ' := ⟨fun i L' hi => by
        have : i < M.length := by
          rcases Nat.lt_or_ge i M.length with h | h
          · exact h
          · rw [h1 i h] at hi; cases hi
        simp [κ', this, hi], fun _ _ h => h⟩
      refine ⟨κ', S, ⟨fun i hi => ?_, ⟨fun i b => if i < M.length then (if i = id then Fi 0 b else F i b) else Fi (i - M.length + 1) b, fun i hi => ?_, ?_, ?_⟩, h5, h6, h7⟩, ⟨fun i hi => ?_, fun _ _ h => h, fun b h => .inl h, fun _ _ h => .inl h, fun _ _ _ => rfl, Nat.le_refl _, rfl, rfl, rfl⟩, fun i a b cv h => h.le hle⟩
      · simp at hi
        have : ¬i < M.length := by omega
        simp only [κ', if_neg this]
        exact g4 _ (by rw [hu]; simp; omega)
      · simp at hi
        by_cases hil : i < M.length
        · rw [List.getElem_append_left (by simpa using hil)]
          simp only [if_pos hil]
          by_cases hii : i = id
          · subst hii
            simp only [List.getElem_set_self, if_true]
            have := (g5 0 (by rw [hu]; simp)).ren hrens
            simpa [hu, τ] using this
          · simp only [if_neg hii, List.getElem_set_ne (Ne.symm hii)]
            exact (h2 i hil).keep unf hle fun _ _ => rfl
        · rw [List.getElem_append_right (by simpa using hil)]
          simp only [if_neg hil, List.length_set, List.getElem_map]
          have := (g5 (i - M.length + 1) (by rw [hu]; simp; omega)).ren hrens
          simp only [hu, List.getElem_cons_succ] at this
          have h0 : τ.getD (i - M.length + 1) 0 = i := by
            simp [τ, show i - M.length < r.length by omega]
            omega
          rw [h0] at this
          exact this
      · intro i j b hij hi hj
        have up : ∀ k, Fi k b → F id b := fun k => g7 k b
        by_cases hil : i < M.length <;> by_cases hjl : j < M.length
        · rw [if_pos hil] at hi
          rw [if_pos hjl] at hj
          by_cases hii : i = id
          · rw [if_pos hii] at hi
            have : j ≠ id := fun h => hij (hii.trans h.symm)
            rw [if_neg this] at hj
            exact h3 j id b this hj (up 0 hi)
          · rw [if_neg hii] at hi
            by_cases hji : j = id
            · rw [if_pos hji] at hj; exact h3 i id b hii hi (up 0 hj)
            · rw [if_neg hji] at hj; exact h3 i j b hij hi hj
        · rw [if_pos hil] at hi
          rw [if_neg hjl] at hj
          by_cases hii : i = id
          · rw [if_pos hii] at hi; exact g6 0 _ b (by omega) hi hj
          · rw [if_neg hii] at hi; exact h3 i id b hii hi (up _ hj)
        · rw [if_neg hil] at hi
          rw [if_pos hjl] at hj
          by_cases hji : j = id
          · rw [if_pos hji] at hj; exact g6 _ 0 b (by omega) hi hj
          · rw [if_neg hji] at hj; exact h3 j id b hji hj (up _ hi)
        · rw [if_neg hil] at hi
          rw [if_neg hjl] at hj
          exact g6 _ _ b (by omega) hi hj
      · intro i b hb
        by_cases hil : i < M.length
        · rw [if_pos hil] at hb
          by_cases hii : i = id
          · rw [if_pos hii] at hb; exact h4 id b (g7 _ _ hb)
          · rw [if_neg hii] at hb; exact h4 i b hb
        · rw [if_neg hil] at hb; exact h4 id b (g7 _ _ hb)
      · simp [κ', show i < M.length by omega]

end Go.Am
end
section
namespace Go.Am
open Go

variable {O : Type} {unf : O → List (AO O)} {P : Program}

theorem CallT.mono {f : FuncId} {args : List AV} {M : Mem O} {R R' : AV → Mem O → List Nat → Prop} (h : CallT unf P f args M R) (hr : ∀ v M' ch, R v M' ch → ChOk M M' ch → R' v M' ch) : CallT unf P f args M R' := callT_ok f args M R R' h hr

theorem Invokes.mono {f : FuncId} {args : Array Value} {w : World} {R R' : Value → World → Prop} (h : Invokes P f args w R) (hr : ∀ v w', R v w' → R' v w') : Invokes P f args w R' := by
  rcases h with ⟨cv, w', h1, h2⟩ | ⟨h1, h2⟩
  · exact .inl ⟨cv, w', h1, hr _ _ h2⟩
  · refine .inr ⟨h1, h2.mono fun e w' ⟨cv, he, hR⟩ => ⟨cv, he, hr _ _ hR⟩⟩

/-- ahead of a call the view may be made weaker, and behind it -/
theorem CallT.ent {f : FuncId} {args args1 : List AV} {M M1 : Mem O} {R1 R : AV → Mem O → List Nat → Prop} (hin : Ent unf M.length args M args1 M1) (h : CallT unf P f args1 M1 R1)
    (hout : ∀ v M1' ch, R1 v M1' ch → ChOk M1 M1' ch → ∃ v2 M2 ch2, Ent unf M.length [v] M1' [v2] M2 ∧ R v2 M2 ch2 ∧ ChOk M M2 ch2) : CallT unf P f args M R := by
  intro κ S w cargs hR hargs
  obtain ⟨hn, hl, hent⟩ := hin (Nat.le_refl _)
  obtain ⟨κ1, S1, hR1, hP1, hv1⟩ := hent κ S w hR
  have hargs1 : VRelL κ1 args1 cargs := ⟨by rw [hl]; exact hargs.1, fun i a b => hv1 i (by omega) a _ (hargs.2 i (by omega) b)⟩
  refine (h κ1 S1 w cargs hR1 hargs1).mono fun cv w' ⟨κ', S', v, M', ch, hK, hR', hv, hP, hch⟩ => ?_
  obtain ⟨v2, M2, ch2, hen2, hK2, hch2⟩ := hout v M' ch hK hch
  obtain ⟨hn2, _, hent2⟩ := hen2 (Nat.le_trans hn hch.1)
  obtain ⟨κ2, S2, hR2, hP2, hv2⟩ := hent2 κ' S' w' hR'
  exact ⟨κ2, S2, v2, M2, ch2, hK2, hR2, hv2 0 (by simp) (by simp) cv hv, (hP1.trans hP hn).trans hP2 (Nat.le_refl _) , hch2⟩

/-- one result -/
def resOne (tmps : Array Value) : ResultVar → Sem Value
  | .tmp t => pure (tmps.getD t undef)
  | .cell a t => do loadVar t (← asAddr (tmps.getD a undef))

theorem results_go {κ : Ctx} {w : World} {e : Env} {a : Act} (hE : VRelL κ e a.tmps) : ∀ {l : List ResultVar} {R : List AV → Prop}, resGo e R l →
    ∃ vs, ∃ cvs : List Value, R vs ∧ vs.length = cvs.length ∧ (∀ i (h : i < vs.length) (h' : i < cvs.length), VRel κ vs[i] cvs[i]) ∧ (l.mapM (resOne a.tmps)).run P w = .ok cvs w
  | [], R, h => ⟨[], [], h, rfl, fun i h => by simp at h, by simp⟩
  | .tmp t :: r, R, h => by
    obtain ⟨v, hv, h⟩ := getK_iff.1 h
    obtain ⟨c, hc, hr⟩ := hE.get hv
    obtain ⟨vs, cvs, h1, h2, h4, h3⟩ := results_go (w := w) hE h
    refine ⟨v :: vs, c :: cvs, h1, by simp [h2], fun i a1 a2 => ?_, ?_⟩
    · cases i with
      | zero => simpa using hr
      | succ i => exact h4 i (by simpa using a1) (by simpa using a2)
    · rw [List.mapM_cons]
      have : a.tmps.getD t undef = c := by simp [hc]
      simp only [Sem.run_bind, resOne, Sem.run_pure, Result.andThen_ok, h3, this]
  | .cell _ _ :: _, _, h => h.elim

theorem results_sound {κ : Ctx} {w : World} {fn : Func} {e : Env} {a : Act} (hE : VRelL κ e a.tmps) {R : AV → Prop} (h : resultsK fn e R) : ∃ v cv, R v ∧ VRel κ v cv ∧ (results fn a.tmps).run P w = .ok cv w := by
  obtain ⟨vs, cvs, h1, hl, h4, h3⟩ := results_go (P := P) (w := w) hE h
  have hm : (fn.results.mapM (resOne a.tmps)).run P w = .ok cvs.toArray w := by
    rw [Array.mapM_eq_mapM_toList]; simp [h3]
  have hres : (results fn a.tmps).run P w = .ok (if h : cvs.toArray.size = 1 then cvs.toArray[0] else .tuple cvs.toArray) w := by
    have : results fn a.tmps = (do let vs ← fn.results.mapM (resOne a.tmps); pure (if h : vs.size = 1 then vs[0] else .tuple vs)) := rfl
    rw [this]
    simp only [Sem.run_bind, hm, Result.andThen_ok, Sem.run_pure]
  rcases vs with _ | ⟨v, _ | ⟨v', vs⟩⟩
  · refine ⟨_, _, h1, ?_, hres⟩
    rw [dif_neg (by simp [← hl])]
    exact .tup (by simpa using hl) fun i h => by simp at h
  · refine ⟨_, _, h1, ?_, hres⟩
    rw [dif_pos (by simp [← hl])]
    exact h4 0 (by simp) (by rw [← hl]; simp)
  · refine ⟨_, _, h1, ?_, hres⟩
    rw [dif_neg (by simp [← hl])]
    exact .tup (by simpa using hl) fun i a b => by simpa using h4 i a (by simpa using b)

/-- a call by the function's body -/
theorem CallT.of_body {f : FuncId} {fn : Func} {c : Code} {args args1 : List AV} {M M1 : Mem O} {R : AV → Mem O → List Nat → Prop} (hf : P.funcs[f]? = some fn) (hb : fn.body = some c)
    (hcall : ∀ (args : Array Value) (w : World), (callFunc f args).run P w = .ok (.enter f args) w) (hin : Ent unf M.length args M args1 M1)
    (h : wpA P (CallT unf P) (Ent unf) M.length c (frameOf fn args1) M1 fun x e M' => match x with
      | .exit _ => False
      | _ => resultsK fn e fun v => ∃ v2 M2 ch, Ent unf M.length [v] M' [v2] M2 ∧ R v2 M2 ch ∧ ChOk M M2 ch) : CallT unf P f args M R := by
  intro κ S w cargs hR hargs
  obtain ⟨hn, hl, hent⟩ := hin (Nat.le_refl _)
  obtain ⟨κ1, S1, hR1, hP1, hv1⟩ := hent κ S w hR
  have hargs1 : VRelL κ1 args1 cargs := ⟨by rw [hl]; exact hargs.1, fun i a b => hv1 i (by omega) a _ (hargs.2 i (by omega) b)⟩
  refine .inr ⟨hcall _ _, calls_of_wp hf hb (wpA_sound draw_sound c h hR1 ?_ rfl hn ?_)⟩
  · refine ⟨by simp [frameOf, hargs1.1], fun i h1 h2 => ?_⟩
    simp only [frameOf] at h1 ⊢
    by_cases hi : i < args1.length
    · rw [List.getElem_append_left hi, Array.getElem_append_left (by rw [← hargs1.1]; exact hi)]
      exact hargs1.2 i hi _
    · rw [List.getElem_append_right (by omega), Array.getElem_append_right (by rw [← hargs1.1]; omega)]
      simp only [List.getElem_replicate, Array.getElem_replicate]
      exact undef_rel _
  · intro x κ' S' w' a' e' M' hx hR' hE' hd' hP' hn'
    have fin : resultsK fn e' (fun v => ∃ v2 M2 ch, Ent unf M.length [v] M' [v2] M2 ∧ R v2 M2 ch ∧ ChOk M M2 ch) → a'.defers = [] ∧ ∃ v, (results fn a'.tmps).run P w' = .ok v w' ∧ (∃ cv, Ending.returned v = .returned cv ∧ ∃ κ' S' v M' ch, R v M' ch ∧ Rep unf κ' M' w' S' ∧ VRel κ' v cv ∧ Post M.length κ S w κ' S' w' ∧ ChOk M M' ch) := by
      intro hx
      obtain ⟨v, cv, ⟨v2, M2, ch, hen2, hK2, hch2⟩, hv, hrun⟩ := results_sound (P := P) (w := w') hE' hx
      obtain ⟨hn2, _, hent2⟩ := hen2 hn'
      obtain ⟨κ2, S2, hR2, hP2, hv2⟩ := hent2 κ' S' w' hR'
      exact ⟨hd', cv, hrun, cv, rfl, κ2, S2, v2, M2, ch, hK2, hR2, hv2 0 (by simp) (by simp) cv hv, (hP1.trans hP' (Nat.le_refl _)).trans hP2 (Nat.le_refl _), hch2⟩
    cases x with
    | exit id => exact hx.elim
    | normal => exact fin hx
    | ret => exact fin hx

end Go.Am
end
section
namespace Go.Am
open Go

variable {O : Type} {unf : O → List (AO O)} {P : Program}

/-- objects are laid back to their places: those that were seen -/
def setsM (ρ : AO O → AO O) : List Nat → List (AO O) → List (AO O) → Mem O → Mem O
  | _ :: ts, .dead :: os, _ :: os', M => setsM ρ ts os os' M
  | t :: ts, .cells _ _ :: os, o' :: os', M => setsM ρ ts os os' (M.set t (ρ o'))
  | t :: ts, .obj _ :: os, o' :: os', M => setsM ρ ts os os' (M.set t (ρ o'))
  | _, _, _, M => M

theorem setsM_length (ρ : AO O → AO O) : ∀ (ts : List Nat) (os os' : List (AO O)) (M : Mem O), (setsM ρ ts os os' M).length = M.length
  | [], os, os', M => by simp [setsM]
  | t :: ts, [], os', M => by simp [setsM]
  | t :: ts, o :: os, [], M => by cases o <;> simp [setsM]
  | t :: ts, o :: os, o' :: os', M => by
    cases o with
    | dead => exact setsM_length ρ ts os os' M
    | cells ek cs => simp [setsM, setsM_length ρ ts os os']
    | obj o => simp [setsM, setsM_length ρ ts os os']

theorem setsM_none (ρ : AO O → AO O) {i : Nat} : ∀ (ts : List Nat) (os os' : List (AO O)) (M : Mem O), (∀ k (h : k < ts.length) (h' : k < os.length), os[k] ≠ .dead → ts[k] ≠ i) → (setsM ρ ts os os' M)[i]? = M[i]?
  | [], os, os', M, _ => by simp [setsM]
  | t :: ts, [], os', M, _ => by simp [setsM]
  | t :: ts, o :: os, [], M, _ => by cases o <;> simp [setsM]
  | t :: ts, o :: os, o' :: os', M, h => by
    have h' := fun k (hk : k < ts.length) (hk' : k < os.length) => h (k + 1) (by simpa using hk) (by simpa using hk')
    cases o with
    | dead => exact setsM_none ρ ts os os' M h'
    | cells ek cs =>
      simp only [setsM]
      rw [setsM_none ρ ts os os' _ h', List.getElem?_set_ne (show t ≠ i from h 0 (by simp) (by simp) (by simp))]
    | obj o =>
      simp only [setsM]
      rw [setsM_none ρ ts os os' _ h', List.getElem?_set_ne (show t ≠ i from h 0 (by simp) (by simp) (by simp))]

theorem setsM_some (ρ : AO O → AO O) : ∀ (ts : List Nat) (os os' : List (AO O)) (M : Mem O), ts.Nodup → ∀ k (h : k < ts.length) (h' : k < os.length) (h'' : k < os'.length), os[k] ≠ .dead → ts[k] < M.length → (setsM ρ ts os os' M)[ts[k]]? = some (ρ os'[k])
  | [], _, _, _, _, k, h, _, _, _, _ => by simp at h
  | t :: ts, [], _, _, _, k, _, h', _, _, _ => by simp at h'
  | t :: ts, o :: os, [], _, _, k, _, _, h'', _, _ => by simp at h''
  | t :: ts, o :: os, o' :: os', M, hn, k, h, h', h'', hd, hlt => by
    obtain ⟨h1, h2⟩ := List.nodup_cons.1 hn
    cases k with
    | zero =>
      have hno : ∀ k (h : k < ts.length) (h' : k < os.length), os[k] ≠ .dead → ts[k] ≠ t := fun k hk _ _ hc => h1 (by rw [← hc]; exact List.getElem_mem hk)
      simp only [List.getElem_cons_zero] at hd hlt ⊢
      cases o with
      | dead => exact absurd rfl hd
      | cells ek cs => simp only [setsM]; rw [setsM_none ρ ts os os' _ hno, List.getElem?_set_self hlt]
      | obj o => simp only [setsM]; rw [setsM_none ρ ts os os' _ hno, List.getElem?_set_self hlt]
    | succ k =>
      simp only [List.getElem_cons_succ] at hd hlt ⊢
      cases o with
      | dead => exact setsM_some ρ ts os os' M h2 k _ _ _ hd hlt
      | cells ek cs => simp only [setsM]; exact setsM_some ρ ts os os' _ h2 k _ _ _ hd (by simpa using hlt)
      | obj o => simp only [setsM]; exact setsM_some ρ ts os os' _ h2 k _ _ _ hd (by simpa using hlt)

/-- the numbers behind a call: new ones come behind all others -/
def wideT (τ : List Nat) (m k : Nat) : List Nat := τ ++ (List.range k).map (m + ·)

/-- the memory behind a call -/
def wideM (τ : List Nat) (M0 M M0' : Mem O) : Mem O :=
  let τ' := wideT τ M.length (M0'.length - M0.length)
  setsM (renO τ') τ M0 M0' M ++ (M0'.drop M0.length).map (renO τ')

theorem CallT.frame {f : FuncId} {args0 args : List AV} {M0 M : Mem O} {τ : List Nat} {R0 R : AV → Mem O → List Nat → Prop} (h : CallT unf P f args0 M0 R0) (hM : LowM τ M0 M) (ha : LowL τ args0 args) (hlt : ∀ t, t ∈ τ → t < M.length)
    (hk : ∀ v M0' ch, R0 v M0' ch → ChOk M0 M0' ch → ∃ ch', R (renV (wideT τ M.length (M0'.length - M0.length)) v) (wideM τ M0 M M0') ch' ∧ ChOk M (wideM τ M0 M M0') ch') : CallT unf P f args M R := by
  intro κ S w cargs hR hargs
  obtain ⟨S0, hR0, hS0, F, hF2, hF3, hF4, hS0'⟩ := hR.low hM
  have hargs0 : VRelL (κ.by τ) args0 cargs := ⟨ha.1.trans hargs.1, fun i a b => (hargs.2 i (ha.1 ▸ a) b).low (ha.2 i a (ha.1 ▸ a))⟩
  refine (h _ S0 w cargs hR0 hargs0).mono fun cv w' ⟨κ0', S0', v, M0', ch, hK, hR0', hv, hP, hch⟩ => ?_
  obtain ⟨ch', hK', hch'⟩ := hk v M0' ch hK hch
  have hlen : M0.length ≤ M0'.length := hch.1
  obtain ⟨g1, ⟨F', g2, g3, g4⟩, g5, g6, g7⟩ := hR0'
  let τ' := wideT τ M.length (M0'.length - M0.length)
  have hτl : τ.length = M0.length := hM.len
  let κ' : Ctx := ⟨fun i => if i < M.length then κ.at_ i else κ0'.at_ (i - M.length + M0.length), κ0'.imm⟩
  have hτold : ∀ i (hi : i < τ.length), τ'.getD i 0 = τ[i] := fun i hi => by
    simp [τ', wideT, List.getElem?_append_left hi, hi]
  have hτnew : ∀ i, M0.length ≤ i → i < M0'.length → τ'.getD i 0 = M.length + (i - M0.length) := fun i h1 h2 => by
    simp [τ', wideT, List.getElem?_append_right (show τ.length ≤ i by omega), hτl, show i - M0.length < M0'.length - M0.length by omega]
  have hrens : Rens τ' κ0' κ' := by
    refine ⟨fun i L hi => ?_, fun _ _ h => h⟩
    have hi' : i < M0'.length := by
      rcases Nat.lt_or_ge i M0'.length with h | h
      · exact h
      · rw [g1 i h] at hi; cases hi
    by_cases hio : i < M0.length
    · have h1 := hP.at_ i hio
      have hiτ : i < τ.length := by omega
      rw [hτold i hiτ]
      have h2 : (κ.by τ).at_ i = κ.at_ τ[i] := Ctx.by_some (List.getElem?_eq_getElem hiτ)
      have h3 := hlt τ[i] (List.getElem_mem hiτ)
      simp only [κ', h3, if_true]
      rw [← h2, ← h1]; exact hi
    · rw [hτnew i (by omega) hi']
      simp only [κ', show ¬(M.length + (i - M0.length) < M.length) by omega, if_false, show M.length + (i - M0.length) - M.length + M0.length = i by omega]
      exact hi
  have hle : κ.Le κ' := ⟨fun i L hi => by
    have : i < M.length := by
      rcases Nat.lt_or_ge i M.length with h | h
      · exact h
      · rw [hR.dom i h] at hi; cases hi
    simp only [κ', this, if_true]; exact hi, hP.imm⟩
  have hsame : ∀ b, S b → ¬S0 b → w'.heap[b]? = w.heap[b]? := fun b hb hn => hP.same b (hR.lt b hb) hn
  have hMl : (wideM τ M0 M M0').length = M.length + (M0'.length - M0.length) := by simp [wideM, setsM_length]
  refine ⟨κ', fun b => (S b ∧ ¬S0 b) ∨ S0' b, _, _, ch', hK', ⟨fun i hi => ?_, ⟨fun i b => if i < M.length then ((∃ k, ∃ (h : k < τ.length) (h' : k < M0.length), M0[k] ≠ .dead ∧ τ[k] = i ∧ F' k b) ∨ ((∀ k (h : k < τ.length) (h' : k < M0.length), M0[k] ≠ .dead → τ[k] ≠ i) ∧ F i b)) else F' (i - M.length + M0.length) b, fun i hi => ?_, ?_, ?_⟩, ?_, ?_, g7⟩, hv.ren hrens, ⟨fun i hi => ?_, hP.imm, ?_, ?_, ?_, hP.grow, hP.rest⟩, hch'⟩
  · rw [hMl] at hi
    simp only [κ', show ¬i < M.length by omega, if_false]
    exact g1 _ (by omega)
  · rw [hMl] at hi
    by_cases hil : i < M.length
    · simp only [if_pos hil]
      have hget : (wideM τ M0 M M0')[i]? = (setsM (renO τ') τ M0 M0' M)[i]? := by
        show (setsM (renO τ') τ M0 M0' M ++ (M0'.drop M0.length).map (renO τ'))[i]? = _
        exact List.getElem?_append_left (by rw [setsM_length]; exact hil)
      by_cases hseen : ∃ k, ∃ (h : k < τ.length) (h' : k < M0.length), M0[k] ≠ .dead ∧ τ[k] = i
      · obtain ⟨k, hk1, hk2, hkd, rfl⟩ := hseen
        rw [setsM_some (renO τ') τ M0 M0' M hM.nodup k hk1 hk2 (by omega) hkd hil] at hget
        have hx : (wideM τ M0 M M0')[τ[k]]'(by rw [hMl]; exact hi) = renO τ' (M0'[k]'(by omega)) := by
          rw [List.getElem?_eq_getElem (by rw [hMl]; exact hi)] at hget; exact Option.some.inj hget
        rw [hx]
        have := (g2 k (by omega)).ren hrens
        rw [hτold k hk1] at this
        exact this.mono unf fun b hb => .inl ⟨k, hk1, hk2, hkd, rfl, hb⟩
      · have hno : ∀ k (h : k < τ.length) (h' : k < M0.length), M0[k] ≠ .dead → τ[k] ≠ i := fun k h1 h2 h3 h4 => hseen ⟨k, h1, h2, h3, h4⟩
        rw [setsM_none (renO τ') τ M0 M0' M hno] at hget
        have hx : (wideM τ M0 M M0')[i]'(by rw [hMl]; exact hi) = M[i] := by
          rw [List.getElem?_eq_getElem (by rw [hMl]; exact hi), List.getElem?_eq_getElem hil] at hget; exact Option.some.inj hget
        rw [hx]
        refine ((hF2 i hil).keep unf hle fun b hb => hsame b (hF4 i b hb) fun hc => ?_).mono unf fun b hb => .inr ⟨hno, hb⟩
        obtain ⟨k, h1, h2, h3, h4⟩ := (hS0' b).1 hc
        exact hF3 i _ b (Ne.symm (hno k h2 h1 h3)) hb h4
    · simp only [if_neg hil]
      have hget : (wideM τ M0 M M0')[i]? = some (renO τ' (M0'[i - M.length + M0.length]'(by omega))) := by
        show (setsM (renO τ') τ M0 M0' M ++ (M0'.drop M0.length).map (renO τ'))[i]? = _
        rw [List.getElem?_append_right (by rw [setsM_length]; omega), setsM_length]
        rw [List.getElem?_map, List.getElem?_drop]
        rw [show M0.length + (i - M.length) = i - M.length + M0.length by omega]
        rw [List.getElem?_eq_getElem (show i - M.length + M0.length < M0'.length by omega)]
        rfl
      have hx : (wideM τ M0 M M0')[i]'(by rw [hMl]; exact hi) = renO τ' (M0'[i - M.length + M0.length]'(by omega)) := by
        rw [List.getElem?_eq_getElem (by rw [hMl]; exact hi)] at hget; exact Option.some.inj hget
      rw [hx]
      have := (g2 (i - M.length + M0.length) (by omega)).ren hrens
      rw [hτnew _ (by omega) (by omega)] at this
      rwa [show M.length + (i - M.length + M0.length - M0.length) = i by omega] at this
  · -- apart
    have old : ∀ i j b, F' i b → F j b → (∀ k (h : k < τ.length) (h' : k < M0.length), M0[k] ≠ .dead → τ[k] ≠ j) → False := by
      intro i j b hi hj hno
      rcases hP.sub b (g4 i b hi) with h1 | h1
      · obtain ⟨k, h2, h3, h4, h5⟩ := (hS0' b).1 h1
        exact hF3 j _ b (Ne.symm (hno k h3 h2 h4)) hj h5
      · have := hR.lt b (hF4 j b hj)
        omega
    intro i j b hij hi hj
    by_cases hil : i < M.length <;> by_cases hjl : j < M.length
    · rw [if_pos hil] at hi
      rw [if_pos hjl] at hj
      rcases hi with ⟨k, h1, h2, h3, rfl, hi⟩ | ⟨hno, hi⟩
      · rcases hj with ⟨k', h1', h2', h3', rfl, hj⟩ | ⟨hno', hj⟩
        · exact g3 k k' b (fun h => hij (by subst h; rfl)) hi hj
        · exact old k j b hi hj hno'
      · rcases hj with ⟨k', h1', h2', h3', rfl, hj⟩ | ⟨hno', hj⟩
        · exact old k' i b hj hi hno
        · exact hF3 i j b hij hi hj
    · rw [if_pos hil] at hi
      rw [if_neg hjl] at hj
      rcases hi with ⟨k, h1, h2, h3, rfl, hi⟩ | ⟨hno, hi⟩
      · exact g3 k _ b (by omega) hi hj
      · exact old _ i b hj hi hno
    · rw [if_neg hil] at hi
      rw [if_pos hjl] at hj
      rcases hj with ⟨k, h1, h2, h3, rfl, hj⟩ | ⟨hno, hj⟩
      · exact g3 k _ b (by omega) hj hi
      · exact old _ j b hi hj hno
    · rw [if_neg hil] at hi
      rw [if_neg hjl] at hj
      exact g3 _ _ b (by omega) hi hj
  · intro i b hb
    by_cases hil : i < M.length
    · rw [if_pos hil] at hb
      rcases hb with ⟨k, h1, h2, h3, rfl, hb⟩ | ⟨hno, hb⟩
      · exact .inr (g4 k b hb)
      · refine .inl ⟨hF4 i b hb, fun hc => ?_⟩
        obtain ⟨k, h2, h3, h4, h5⟩ := (hS0' b).1 hc
        exact hF3 i _ b (Ne.symm (hno k h3 h2 h4)) hb h5
    · rw [if_neg hil] at hb
      exact .inr (g4 _ b hb)
  · rintro b (⟨hb, _⟩ | hb)
    · exact Nat.lt_of_lt_of_le (hR.lt b hb) hP.grow
    · exact g5 b hb
  · intro b A hb
    obtain ⟨h1, h2⟩ := g6 b A hb
    refine ⟨?_, h2⟩
    rintro (⟨h3, h4⟩ | h3)
    · rcases hP.isub b A hb with h5 | h5 | h5
      · exact (hR.imm b A h5).1 h3
      · exact h4 h5
      · have := hR.lt b h3; omega
    · exact h1 h3
  · simp only [κ', hi, if_true]
  · rintro b (⟨hb, _⟩ | hb)
    · exact .inl hb
    · exact (hP.sub b hb).imp (hS0 b) id
  · intro b A hb
    rcases hP.isub b A hb with h5 | h5 | h5
    · exact .inl h5
    · exact .inr (.inl (hS0 b h5))
    · exact .inr (.inr h5)
  · intro b hb hn
    exact hP.same b hb fun hc => hn (hS0 b hc)

end Go.Am
end
section
namespace Go.Am
open Go

variable {O : Type} {unf : O → List (AO O)} {P : Program}

/-- one folded object is all that there is: its parts -/
theorem Ent.open1 {e : Env} {o : O} (hlen : 1 ≤ (unf o).length) : Ent unf 1 e [.obj o] e (unf o) := by
  intro _
  refine ⟨hlen, rfl, fun κ S w hR => ?_⟩
  obtain ⟨h1, ⟨F, h2, h3, h4⟩, h5, h6, h7⟩ := hR
  have hown := h2 0 (by simp)
  cases hown with
  | obj κi Fi L g1 g2 g3 g4 g5 g6 g7 =>
    have hle : κ.Le κi := by
      refine ⟨fun i L' hi => ?_, fun b A hb => by rw [g2]; exact hb⟩
      cases i with
      | zero => rw [g1] at hi; cases hi; exact g3
      | succ i => rw [h1 (i + 1) (by simp)] at hi; cases hi
    refine ⟨κi, S, ⟨g4, ⟨Fi, g5, g6, fun i b hb => h4 0 b (g7 i b hb)⟩, h5, fun b A hb => h6 b A (g2 ▸ hb), by rw [g2]; exact h7⟩, ⟨fun i hi => ?_, fun b A hb => by rw [g2]; exact hb, fun b h => .inl h, fun b A h => .inl (g2 ▸ h), fun _ _ _ => rfl, Nat.le_refl _, rfl, rfl, rfl⟩, fun i _ _ cv h => h.le hle⟩
    obtain rfl : i = 0 := by omega
    rw [g3, g1]

/-- .. and folded again, the rest forgotten -/
theorem Ent.pack1 {v v' : AV} {o : O} {M : Mem O} {cs : List Nat} (hM : LowM (0 :: cs) (unf o) M) (hd : ∀ h, (unf o)[0]'h ≠ .dead) (hv : Low [0] v' v) (hlen : 1 ≤ M.length) : Ent unf 1 [v] M [v'] [.obj o] := by
  refine (Ent.fold (n := 1) hM hd hlen).trans (.low (τ := [0]) ⟨rfl, by simp, fun i h _ => ?_⟩ (.cons hv (.nil _)) (by simp) fun i hi => by simp [show i = 0 by omega])
  obtain rfl : i = 0 := by simpa using h
  refine .inr ⟨.obj o, ?_, .obj o⟩
  have h0 : 0 < (foldM (0 :: cs) o M).length := by rw [foldM_length]; omega
  simp only [List.getElem_cons_zero]
  rw [List.getElem?_eq_getElem h0, foldM_get _ _ _ _ (by omega)]
  simp

/-- a memory, part for part -/
theorem LowM.mk' {τ : List Nat} {M M' : Mem O} (hlen : τ.length = M.length) (hn : τ.Nodup) (h : ∀ i (h : i < M.length) (h' : i < τ.length), M[i] = .dead ∨ ∃ o, M'[τ[i]]? = some o ∧ LowO τ M[i] o) : LowM τ M M' := ⟨hlen, hn, h⟩

inductive Parts (τ : List Nat) (M' : Mem O) : List Nat → Mem O → Prop
  | nil : Parts τ M' [] []
  | dead {t ts os} : Parts τ M' ts os → Parts τ M' (t :: ts) (.dead :: os)
  | some {t ts o o' os} : M'[t]? = some o' → LowO τ o o' → Parts τ M' ts os → Parts τ M' (t :: ts) (o :: os)

theorem Parts.low {τ : List Nat} {M M' : Mem O} (hn : τ.Nodup) (h : Parts τ M' τ M) : LowM τ M M' := by
  have key : ∀ {ts : List Nat} {os : Mem O}, Parts τ M' ts os → ts.length = os.length ∧ ∀ i (h : i < os.length) (h' : i < ts.length), os[i] = .dead ∨ ∃ o, M'[ts[i]]? = Option.some o ∧ LowO τ os[i] o := by
    intro ts os h
    induction h with
    | nil => exact ⟨rfl, fun i h => by simp at h⟩
    | dead _ ih =>
      refine ⟨by simp [ih.1], fun i h h' => ?_⟩
      cases i with
      | zero => exact .inl rfl
      | succ i => exact ih.2 i (by simpa using h) (by simpa using h')
    | some h1 h2 _ ih =>
      refine ⟨by simp [ih.1], fun i h h' => ?_⟩
      cases i with
      | zero => exact .inr ⟨_, h1, h2⟩
      | succ i => exact ih.2 i (by simpa using h) (by simpa using h')
  exact ⟨(key h).1, hn, (key h).2⟩

/-- a slice field: nil, or all of a row of its own -/
def slOf (i : Nat) (z : Nat) : Option (List AV) → AV
  | none => .nilS
  | some l => .sl i 0 (l.length / z) (l.length / z)
def rowOf (z : Nat) : Option (List AV) → AO O
  | none => .dead
  | some l => .cells (some z) l

/-- what is asked at a function's end: another view of the memory, and what was to be shown -/
@[irreducible] def fin (unf : O → List (AO O)) (n : Nat) (M : Mem O) (R : AV → Mem O → List Nat → Prop) (v : AV) (M' : Mem O) : Prop := ∃ v2 M2 ch, Ent unf n [v] M' [v2] M2 ∧ R v2 M2 ch ∧ ChOk M M2 ch
theorem fin.mk {n : Nat} {M : Mem O} {R : AV → Mem O → List Nat → Prop} {v : AV} {M' : Mem O} (v2 : AV) (M2 : Mem O) (ch : List Nat) (h1 : Ent unf n [v] M' [v2] M2) (h2 : R v2 M2 ch) (h3 : ChOk M M2 ch) : fin unf n M R v M' := by
  unfold fin; exact ⟨v2, M2, ch, h1, h2, h3⟩

def endK (unf : O → List (AO O)) (n : Nat) (M : Mem O) (R : AV → Mem O → List Nat → Prop) (fn : Func) : AX → Env → Mem O → Prop
  | .exit _, _, _ => False
  | .normal, e, M' => resultsK fn e fun v => fin unf n M R v M'
  | .ret, e, M' => resultsK fn e fun v => fin unf n M R v M'

theorem CallT.by_body {n : Nat} {f : FuncId} {fn : Func} {c : Code} {args args1 : List AV} {M M1 : Mem O} {R : AV → Mem O → List Nat → Prop} (hf : P.funcs[f]? = some fn) (hb : fn.body = some c)
    (hcall : ∀ (args : Array Value) (w : World), (callFunc f args).run P w = .ok (.enter f args) w) (hn : M.length = n) (hin : Ent unf n args M args1 M1)
    (h : wpA P (CallT unf P) (Ent unf) n c (frameOf fn args1) M1 (endK unf n M R fn)) : CallT unf P f args M R := by
  subst hn
  refine .of_body hf hb hcall hin ?_
  refine Eq.mp (congrArg (fun K => wpA P (CallT unf P) (Ent unf) M.length c (frameOf fn args1) M1 K) ?_) h
  funext x e M'
  cases x <;> simp only [endK, fin]

theorem encB_length (s : List UInt8) : (encB s).length = s.length := by simp [encB]
theorem encB_app (s t : List UInt8) : encB (s ++ t) = encB s ++ encB t := by simp [encB]
theorem encB_one (b : UInt8) : encB [b] = [.int .u8 (b.toNat : Int)] := rfl
theorem sub_encB (s : List UInt8) : sub (encB s) 0 s.length = encB s := by rw [← encB_length]; exact sub_all _
theorem sub_one (v : AV) : sub [v] 0 1 = [v] := rfl

theorem all_encB (s : List UInt8) : (encB s).all AV.isB = true := by
  simp only [List.all_eq_true]
  intro v hv
  simp [encB] at hv
  obtain ⟨b, _, rfl⟩ := hv
  have := b.toNat_lt
  simp [AV.isB]
  omega
theorem decB_encB (s : List UInt8) : decB (encB s) = s := by
  simp only [decB, encB, List.map_map]
  conv => rhs; rw [← List.map_id s]
  refine List.map_congr_left fun b _ => ?_
  simp [AV.byte]

end Go.Am
end
section
namespace Go.Am
open Go

variable {O : Type} {unf : O → List (AO O)} {P : Program}

def killM : List Nat → Mem O → Mem O
  | [], M => M
  | c :: cs, M => killM cs (M.set c .dead)

theorem killM_length : ∀ (cs : List Nat) (M : Mem O), (killM cs M).length = M.length
  | [], _ => rfl
  | c :: cs, M => by rw [killM, killM_length cs]; simp

theorem killM_get : ∀ (cs : List Nat) (M : Mem O) (i : Nat), (killM cs M)[i]? = if i ∈ cs ∧ i < M.length then some .dead else M[i]?
  | [], M, i => by simp [killM]
  | c :: cs, M, i => by
    rw [killM, killM_get cs]
    by_cases h : i ∈ cs
    · by_cases hl : i < M.length <;> simp [h, hl]
    · by_cases hc : i = c
      · subst hc
        by_cases hl : i < M.length <;> simp [h, hl, List.getElem?_set]
      · simp [h, hc, List.getElem?_set, Ne.symm hc]

theorem foldM_eq {r : Nat} {cs : List Nat} {o : O} {M : Mem O} (hr : r ∉ cs) : foldM (r :: cs) o M = (killM cs M).set r (.obj o) := by
  apply List.ext_getElem?
  intro i
  by_cases hi : i < M.length
  · rw [List.getElem?_eq_getElem (by rw [foldM_length]; exact hi), foldM_get _ _ _ _ hi]
    by_cases hir : i = r
    · subst hir
      simp [killM_length, hi]
    · simp only [List.head?_cons, Option.some.injEq, Ne.symm hir, if_false, List.mem_cons, hir, false_or]
      rw [List.getElem?_set_ne (Ne.symm hir), killM_get]
      by_cases hc : i ∈ cs
      · simp [hc, hi]
      · simp [hc, hi]
  · rw [List.getElem?_eq_none (by rw [foldM_length]; omega), List.getElem?_eq_none (by simp [killM_length]; omega)]

theorem range_ok (M M' : Mem O) (h : M.length ≤ M'.length) : ChOk M M' (List.range M.length) := ⟨h, fun i hi hn => absurd (List.mem_range.2 hi) hn⟩

/-- the object at 'r' is folded for a call, and unfolded behind it -/
theorem CallT.folded {f : FuncId} {args0 args : List AV} {o : O} {M : Mem O} {r : Nat} {cs : List Nat} {R0 R : AV → Mem O → List Nat → Prop}
    (spec : CallT unf P f args0 [.obj o] R0) (hM : LowM (r :: cs) (unf o) M) (hd : ∀ h, (unf o)[0]'h ≠ .dead) (ha : LowL [r] args0 args) (hrl : r < M.length)
    (hk : ∀ v M0' ch, R0 v M0' ch → ∃ o' V, v = V ∧ M0' = [.obj o'] ∧ renV [r] V = V ∧ R V (unfoldM unf r o' ((killM cs M).set r (.obj o'))) (List.range M.length)) : CallT unf P f args M R := by
  have hrc : r ∉ cs := (List.nodup_cons.1 hM.nodup).1
  have hfl : (foldM (r :: cs) o M).length = M.length := foldM_length _ _ _
  refine CallT.ent (M1 := foldM (r :: cs) o M) (Ent.fold (n := M.length) hM hd (Nat.le_refl _)) (CallT.frame (τ := [r]) (R := fun v M' _ => ∃ o' V, v = V ∧ M' = (killM cs M).set r (.obj o') ∧ R V (unfoldM unf r o' M') (List.range M.length)) spec ⟨rfl, by simp, fun i hi _ => ?_⟩ ha (fun t ht => ?_) fun v M0' ch hR hch => ?_) fun v M1' ch ⟨o', V, hv, hM1, hR⟩ _ => ?_
  · obtain rfl : i = 0 := by simpa using hi
    refine .inr ⟨.obj o, ?_, .obj o⟩
    rw [foldM_eq hrc]
    simp [killM_length, hrl]
  · simp at ht; subst ht; rw [hfl]; exact hrl
  · obtain ⟨o', V, rfl, rfl, hren, hR⟩ := hk v M0' ch hR
    have hw : wideM [r] [AO.obj o] (foldM (r :: cs) o M) [AO.obj o'] = (killM cs M).set r (.obj o') := by
      simp [wideM, setsM, renO, foldM_eq hrc]
    refine ⟨List.range M.length, ⟨o', v, ?_, hw, by rw [hw]; exact hR⟩, ?_⟩
    · simpa [wideT] using hren
    · rw [← hfl]
      exact range_ok _ _ (by rw [hw, hfl]; simp [killM_length])
  · subst hv
    refine ⟨v, unfoldM unf r o' M1', List.range M.length, Ent.unfold ?_ ?_, hR, range_ok _ _ ?_⟩
    · rw [hM1]; simp [killM_length, hrl]
    · rw [hM1]; simp [killM_length]
    · have : (unfoldM unf r o' M1').length ≥ M1'.length := by
        unfold unfoldM; dsimp only; cases unf o' <;> simp
      have h2 : M1'.length = M.length := by rw [hM1]; simp [killM_length]
      omega

/-- nothing was there, and nothing is kept -/
theorem fin.flat {R : AV → Mem O → List Nat → Prop} {v v' : AV} {M' : Mem O} (hv : Low [] v' v) (hR : R v' [] []) : fin unf 0 [] R v M' :=
  .mk v' [] [] (.low (τ := []) ⟨rfl, .nil, fun i h => by simp at h⟩ (.cons hv (.nil _)) (Nat.zero_le _) (fun i h => by omega)) hR (.refl _ _)

/-- what is known with nothing there is known in every memory -/
theorem CallT.anyM {f : FuncId} {args : List AV} {p : AV → Prop} (h : CallT unf P f args [] fun v M' ch => p v ∧ M' = [] ∧ ch = []) (ha : LowL [] args args) (hren : ∀ v, p v → renV [] v = v) (M : Mem O) : CallT unf P f args M fun v M' ch => p v ∧ M' = M ∧ ch = [] := by
  refine CallT.frame (τ := []) h ⟨rfl, .nil, fun i h => by simp at h⟩ ha (by simp) fun v M0' ch ⟨h1, h2, h3⟩ _ => ?_
  subst h2
  have hw : wideM [] ([] : Mem O) M [] = M := by simp [wideM, setsM]
  rw [hw]
  have : renV (wideT [] M.length (([] : Mem O).length - ([] : Mem O).length)) v = v := by simpa [wideT] using hren v h1
  rw [this]
  exact ⟨[], ⟨h1, rfl, rfl⟩, .refl _ _⟩

end Go.Am
end
