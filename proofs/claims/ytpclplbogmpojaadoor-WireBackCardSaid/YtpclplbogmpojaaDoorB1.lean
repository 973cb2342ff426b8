/-
  Part 1 of a proof: an abstract machine for the program, and what pieces of the program compute (AmBase, AmOps, AmCode, AmDraw, AmWp, AmGlobs, AmRep, AmMem, AmStep, AmEval, AmOpS1, AmOpS2, AmOpS3). No condition of its own.
-/
import Derived.Calls
import Derived.Laws.Sem
import Derived.Laws.World
import Derived.Laws.Cells
set_option linter.unusedSimpArgs false
set_option linter.unusedVariables false
section
namespace Go.Am
open Go

/-- Abstract values. 'und': whatever. -/
inductive AV where
  | int (k : IntKind) (n : Int)
  | bool (b : Bool)
  | str (s : List UInt8)
  | nilP
  | ptr (id off : Nat)
  | pv (cells : List AV)
  | nilS
  | sl (id off len cap : Nat)
  | vs (cells : List AV) (n : Nat)
  | fn (f : FuncId) (first : List AV)
  | nilF
  | nilI
  | ifc (t : TypeId) (v : AV)
  | agg (cells : List AV)
  | tup (parts : List AV)
  | und
  deriving Inhabited

/-- Abstract objects: known cells (exact, or a row with elements of 'esz' cells and maybe more room behind), or a folded object. -/
inductive AO (O : Type) where
  | dead
  | cells (ek : Option Nat) (cs : List AV)
  | obj (o : O)

abbrev Env := List AV
abbrev Mem (O : Type) := List (AO O)

/-- how a piece of code is left -/
inductive AX where
  | normal
  | exit (id : Nat)
  | ret

def getK {α : Type} (R : α → Prop) : List α → Nat → Prop
  | [], _ => False
  | a :: _, 0 => R a
  | _ :: r, n + 1 => getK R r n

def setK {α : Type} (v : α) (R : List α → Prop) : List α → Nat → Prop
  | [], _ => False
  | _ :: r, 0 => R (v :: r)
  | a :: r, n + 1 => setK v (fun r' => R (a :: r')) r n

/-- n cells from the front -/
def takeK {α : Type} (R : List α → Prop) : Nat → List α → Prop
  | 0, _ => R []
  | _ + 1, [] => False
  | n + 1, a :: r => takeK (fun l => R (a :: l)) n r

def dropK {α : Type} (R : List α → Prop) : Nat → List α → Prop
  | 0, l => R l
  | _ + 1, [] => False
  | n + 1, _ :: r => dropK R n r

/-- these cells are laid over the front -/
def overK {α : Type} (R : List α → Prop) : List α → List α → Prop
  | [], l => R l
  | _ :: _, [] => False
  | v :: vs, _ :: r => overK (fun r' => R (v :: r')) vs r

/-- these cells are laid from an offset on -/
def putK {α : Type} (vs : List α) (R : List α → Prop) : Nat → List α → Prop
  | 0, l => overK R vs l
  | _ + 1, [] => False
  | n + 1, a :: r => putK vs (fun r' => R (a :: r')) n r

def appK {α : Type} (R : List α → Prop) (l : List α) : List α → Prop
  | [] => R l
  | a :: r => appK (fun r' => R (a :: r')) l r

theorem getK_iff {α : Type} {R : α → Prop} {l : List α} {n : Nat} : getK R l n ↔ ∃ v, l[n]? = some v ∧ R v := by
  induction l generalizing n with
  | nil => simp [getK]
  | cons a r ih => cases n with
    | zero => simp [getK]
    | succ n => simp [getK, ih]

theorem setK_iff {α : Type} {v : α} {R : List α → Prop} {l : List α} {n : Nat} : setK v R l n ↔ n < l.length ∧ R (l.set n v) := by
  induction l generalizing n R with
  | nil => simp [setK]
  | cons a r ih => cases n with
    | zero => simp [setK]
    | succ n => simp [setK, ih]

theorem takeK_iff {α : Type} {R : List α → Prop} {l : List α} {n : Nat} : takeK R n l ↔ n ≤ l.length ∧ R (l.take n) := by
  induction l generalizing n R with
  | nil => cases n <;> simp [takeK]
  | cons a r ih => cases n with
    | zero => simp [takeK]
    | succ n => simp [takeK, ih]

theorem dropK_iff {α : Type} {R : List α → Prop} {l : List α} {n : Nat} : dropK R n l ↔ n ≤ l.length ∧ R (l.drop n) := by
  induction l generalizing n with
  | nil => cases n <;> simp [dropK]
  | cons a r ih => cases n with
    | zero => simp [dropK]
    | succ n => simp [dropK, ih]

theorem overK_iff {α : Type} {vs : List α} {R : List α → Prop} {l : List α} : overK R vs l ↔ vs.length ≤ l.length ∧ R (vs ++ l.drop vs.length) := by
  induction vs generalizing l R with
  | nil => simp [overK]
  | cons v vs ih => cases l with
    | nil => simp [overK]
    | cons a r => simp [overK, ih]

theorem putK_iff {α : Type} {vs : List α} {R : List α → Prop} {l : List α} {n : Nat} : putK vs R n l ↔ n + vs.length ≤ l.length ∧ R (l.take n ++ (vs ++ l.drop (n + vs.length))) := by
  induction l generalizing n R with
  | nil => cases n with
    | zero => simp [putK, overK_iff]
    | succ n => simp [putK]
  | cons a r ih => cases n with
    | zero => simp [putK, overK_iff]
    | succ n => simp [putK, ih, Nat.add_right_comm]

theorem appK_iff {α : Type} {R : List α → Prop} {l m : List α} : appK R l m ↔ R (m ++ l) := by
  induction m generalizing R with
  | nil => simp [appK]
  | cons a r ih => simp [appK, ih]

end Go.Am
end
section
namespace Go.Am
open Go

/-- a test -/
def testK (b : Bool) (A B : Prop) : Prop := match b with
  | true => A
  | false => B

/-- a condition that is to be paid -/
abbrev payK (b : Bool) (A : Prop) : Prop := testK b A False

theorem testK_true {b : Bool} {A B : Prop} (h : b = true) (a : A) : testK b A B := by subst h; exact a
theorem testK_false {b : Bool} {A B : Prop} (h : b = false) (a : B) : testK b A B := by subst h; exact a
theorem testK_split {b : Bool} {A B : Prop} (h : b = true → A) (h' : b = false → B) : testK b A B := by
  cases b
  · exact h' rfl
  · exact h rfl
theorem testK_iff {b : Bool} {A B : Prop} : testK b A B ↔ (b = true → A) ∧ (b = false → B) := by cases b <;> simp [testK]

/-- bytes as cells -/
def encB (s : List UInt8) : List AV := s.map fun b => .int .u8 (b.toNat : Int)
def AV.isB : AV → Bool
  | .int .u8 n => decide (0 ≤ n) && decide (n < 256)
  | _ => false
def AV.byte : AV → UInt8
  | .int _ n => UInt8.ofNat n.toNat
  | _ => 0
def decB (l : List AV) : List UInt8 := l.map AV.byte

/-- a constant's cell -/
def ofCell : Value → AV
  | .bool b => .bool b
  | .int k n => .int k n
  | .string s => .str s.data.toList
  | .pointer none => .nilP
  | .slice none 0 0 => .nilS
  | .nilFunc => .nilF
  | .nilIface => .nilI
  | _ => .und

def ofVal : Value → AV
  | .agg cs => match cs.toList.all (·.oneCell') with
    | true => .agg (cs.toList.map ofCell)
    | false => .und
  | v => ofCell v

def constK (R : AV → Prop) : Value → Prop
  | .bool b => R (.bool b)
  | .int k n => R (.int k n)
  | v => R (ofVal v)

def cellsK (R : List AV → Prop) : List Value → Prop
  | [] => R []
  | v :: r => match v.oneCell' with
    | true => cellsK (fun l => R (ofCell v :: l)) r
    | false => False

section
variable (P : Program) {O : Type}

def evK (e : Env) (R : AV → Prop) : Operand → Prop
  | .tmp t => getK R e t
  | .const v => constK R v
  | .global _ => False
  | .func f => R (.fn f [])

def evsK (e : Env) (R : List AV → Prop) : List Operand → Prop
  | [] => R []
  | x :: r => evK e (fun v => evsK e (fun vs => R (v :: vs)) r) x

def descK (R : TypeDesc → Prop) (t : TypeId) : Prop := match P.underlying t with
  | some d => R d
  | none => False
def infoK (R : TypeInfo → Prop) (t : TypeId) : Prop := match P.info? t with
  | some i => R i
  | none => False
def sizeK (R : Nat → Prop) (t : TypeId) : Prop := infoK P (fun i => R i.size) t
def aggK (R : Bool → Prop) (t : TypeId) : Prop := descK P (fun d => match d with | .struct _ | .array _ _ => R true | _ => R false) t

def AV.cs : AV → List AV
  | .agg l => l
  | v => [v]

/-- may it be laid into cells? -/
def AV.storable : AV → Bool
  | .und | .tup _ => false
  | _ => true

/-- the zero cells of a type -/
def zeroK (R : List AV → Prop) (t : TypeId) : Prop := infoK P (fun i => match i.zero with
  | some z => cellsK R z.cells.toList
  | none => False) t

def numK (R : IntKind → Int → Prop) : AV → Prop
  | .int k n => R k n
  | _ => False
def bitK (R : Bool → Prop) : AV → Prop
  | .bool b => R b
  | _ => False

/-- what lies at a place, from its offset on -/
def atK (M : Mem O) (R : List AV → Prop) : AV → Prop
  | .ptr id off => getK (fun (o : AO O) => match o with | .cells _ cs => dropK R off cs | _ => False) M id
  | .pv cs => R cs
  | _ => False

def headK (R : AV → Prop) : List AV → Prop
  | [] => False
  | v :: _ => R v

def loadA (t : TypeId) (p : AV) (M : Mem O) (K : AV → Mem O → Prop) : Prop :=
  aggK P (fun g => match g with
    | true => sizeK P (fun n => atK M (takeK (fun l => K (.agg l) M) n) p) t
    | false => atK M (headK fun v => K v M) p) t

def storeA (t : TypeId) (p v : AV) (M : Mem O) (K : AV → Mem O → Prop) : Prop :=
  match p with
  | .ptr id off => sizeK P (fun n => payK (v.storable && decide (v.cs.length = n)) (getK (fun (o : AO O) => match o with
      | .cells ek cs => putK v.cs (fun cs' => setK (AO.cells ek cs') (fun M' => K .und M') M id) off cs
      | _ => False) M id)) t
  | _ => False

def allocA (cs : List AV) (M : Mem O) (K : AV → Mem O → Prop) : Prop := appK (fun M' => K (.ptr M.length 0) M') [.cells none cs] M

/-- parts laid into cells -/
def fillK (place : Nat → Option (Nat × Nat)) (R : List AV → Prop) : List (Nat × AV) → List AV → Prop
  | [], cs => R cs
  | (i, v) :: rest, cs => match place i with
    | some (off, n) => payK (v.storable && decide (v.cs.length = n)) (putK v.cs (fun cs' => fillK place R rest cs') off cs)
    | none => False

def partsK (e : Env) (R : List (Nat × AV) → Prop) : List (Nat × Operand) → Prop
  | [] => R []
  | (i, x) :: r => evK e (fun v => partsK e (fun vs => R ((i, v) :: vs)) r) x

def fieldsAt (fs : Array Field) (i : Nat) : Option (Nat × Nat) := match fs[i]? with
  | some f => match P.info? f.type with
    | some j => some (f.offset, j.size)
    | none => none
  | none => none

def buildA (t : TypeId) (parts : List (Nat × AV)) (M : Mem O) (K : AV → Mem O → Prop) : Prop :=
  zeroK P (fun z => descK P (fun d => match d with
    | .struct fs => payK (fs.toList.all fun f => (P.info? f.type).isSome) (fillK (fieldsAt P fs) (fun cs => K (.agg cs) M) parts z)
    | .array _ el => sizeK P (fun n => fillK (fun i => some (i * n, n)) (fun cs => K (.agg cs) M) parts z) el
    | _ => False) t) t

def repsK (z : List AV) (R : List AV → Prop) : Nat → Prop
  | 0 => R []
  | n + 1 => repsK z (fun l => appK R l z) n

/-- a slice literal's cells -/
def rowK (t : TypeId) (len : Nat) (parts : List (Nat × AV)) (R : Nat → List AV → Prop) : Prop :=
  descK P (fun d => match d with
    | .slice el => sizeK P (fun n => payK (decide (len * n ≤ 16777216)) (zeroK P (fun z => payK (decide (z.length = n)) (repsK z (fun cs => fillK (fun i => some (i * n, n)) (R n) parts cs) len)) el)) el
    | _ => False) t

def buildSliceA (t : TypeId) (len : Nat) (parts : List (Nat × AV)) (M : Mem O) (K : AV → Mem O → Prop) : Prop :=
  rowK P t len parts fun _ cs => appK (fun M' => K (.sl M.length 0 len len) M') [.cells none cs] M

/-- .. that nobody writes -/
def buildVsA (t : TypeId) (len : Nat) (parts : List (Nat × AV)) (M : Mem O) (K : AV → Mem O → Prop) : Prop :=
  rowK P t len parts fun _ cs => K (.vs cs len) M

def nilCheckA (p : AV) (M : Mem O) (K : AV → Mem O → Prop) : Prop := match p with
  | .ptr _ _ | .pv _ => K p M
  | _ => False

def bin2 (k : IntKind) (op : BinOp) (x y : Int) : Int := match op with
  | .and => k.wrap (BitVec.ofInt k.bits x &&& BitVec.ofInt k.bits y).toNat
  | .or => k.wrap (BitVec.ofInt k.bits x ||| BitVec.ofInt k.bits y).toNat
  | .xor => k.wrap (BitVec.ofInt k.bits x ^^^ BitVec.ofInt k.bits y).toNat
  | _ => k.wrap (BitVec.ofInt k.bits x &&& ~~~BitVec.ofInt k.bits y).toNat

def intA (op : BinOp) (k : IntKind) (x y : Int) (K : AV → Prop) : Prop := match op with
  | .add => K (.int k (k.wrap (x + y)))
  | .sub => K (.int k (k.wrap (x - y)))
  | .mul => K (.int k (k.wrap (x * y)))
  | .quo => payK (decide (y ≠ 0)) (K (.int k (k.wrap (x.tdiv y))))
  | .rem => payK (decide (y ≠ 0)) (K (.int k (x.tmod y)))
  | .and => K (.int k (bin2 k .and x y))
  | .or => K (.int k (bin2 k .or x y))
  | .xor => K (.int k (bin2 k .xor x y))
  | .andNot => K (.int k (bin2 k .andNot x y))
  | .eql => K (.bool (decide (x = y)))
  | .neq => K (.bool (!decide (x = y)))
  | .lss => K (.bool (decide (x < y)))
  | .leq => K (.bool (decide (x ≤ y)))
  | .gtr => K (.bool (decide (y < x)))
  | .geq => K (.bool (decide (y ≤ x)))
  | _ => False

def shiftA (op : BinOp) (k : IntKind) (x y : Int) (K : AV → Prop) : Prop := match op with
  | .shl => payK (decide (0 ≤ y)) (K (.int k (k.wrap (x * 2 ^ (min y.toNat k.bits)))))
  | .shr => payK (decide (0 ≤ y)) (K (.int k (x.fdiv (2 ^ (min y.toNat k.bits)))))
  | _ => False

def strA (op : BinOp) (x y : List UInt8) (K : AV → Prop) : Prop := match op with
  | .add => payK (decide (x.length + y.length ≤ 9223372036854775807)) (K (.str (x ++ y)))
  | .eql => K (.bool (decide (x = y)))
  | .neq => K (.bool (!decide (x = y)))
  | .lss => K (.bool (Op.bytesLess x y))
  | .leq => K (.bool (Op.bytesLess x y || decide (x = y)))
  | .gtr => K (.bool (!(Op.bytesLess x y || decide (x = y))))
  | .geq => K (.bool (!Op.bytesLess x y))
  | _ => False

/-- a cell, or cells, of a type, out of more -/
def partK (t : TypeId) (off : Nat) (R : AV → Prop) (cs : List AV) : Prop :=
  aggK P (fun g => match g with
    | true => sizeK P (fun n => dropK (takeK (fun l => R (.agg l)) n) off cs) t
    | false => dropK (headK R) off cs) t

/-- may structs of this type be held against each other field by field? -/
@[irreducible] def eqOk (t : TypeId) (fs : List Field) : Bool := !P.stoodInHeld t && !P.eqGuardType P.depth t && fs.all fun f => f.name != "_"

def eqFs (E : TypeId → AV → AV → (Bool → Prop) → Prop) (xs ys : List AV) (R : Bool → Prop) : List Field → Prop
  | [] => R true
  | f :: fs => partK P f.type f.offset (fun a => partK P f.type f.offset (fun b => E f.type a b fun r => eqFs E xs ys (fun r' => R (r && r')) fs) ys) xs

/-- '==', by a type -/
def eqT : Nat → TypeId → AV → AV → (Bool → Prop) → Prop
  | 0, _, _, _, _ => False
  | d + 1, t, x, y, R => descK P (fun dt => match dt, x, y with
    | .bool, .bool a, .bool b => R (decide (a = b))
    | .int _, .int k a, .int k' b => payK (decide (k = k')) (R (decide (a = b)))
    | .string, .str a, .str b => R (decide (a = b))
    | .struct fs, .agg xs, .agg ys => payK (eqOk P t fs.toList) (eqFs P (eqT d) xs ys R fs.toList)
    | .pointer _, .nilP, .nilP => R true
    | .pointer _, .nilP, .ptr _ _ => R false
    | .pointer _, .ptr _ _, .nilP => R false
    | .slice _, .nilS, .nilS => R true
    | .slice _, .sl _ _ _ _, .nilS => R false
    | .slice _, .nilS, .sl _ _ _ _ => R false
    | .func _ _ _, .nilF, .nilF => R true
    | .func _ _ _, .fn _ _, .nilF => R false
    | .func _ _ _, .nilF, .fn _ _ => R false
    | _, _, _ => False) t

def binA (op : BinOp) (t : TypeId) (x y : AV) (M : Mem O) (K : AV → Mem O → Prop) : Prop := match op, x, y with
  | .shl, .int k a, .int _ b => shiftA .shl k a b fun v => K v M
  | .shr, .int k a, .int _ b => shiftA .shr k a b fun v => K v M
  | _, .int k a, .int k' b => payK (decide (k = k')) (intA op k a b fun v => K v M)
  | _, .str a, .str b => strA op a b fun v => K v M
  | .eql, x, y => eqT P 6 t x y fun b => K (.bool b) M
  | .neq, x, y => eqT P 6 t x y fun b => K (.bool (!b)) M
  | _, _, _ => False

def unA (op : UnOp) (x : AV) (M : Mem O) (K : AV → Mem O → Prop) : Prop := match op, x with
  | .not, .bool b => K (.bool (!b)) M
  | .neg, .int k n => K (.int k (k.wrap (0 - n))) M
  | .xor, .int k n => K (.int k (bin2 k .xor (if k.signed then -1 else k.max) n)) M
  | _, _ => False

/-- the cells of so many places from an offset on -/
def sub (cs : List AV) (off n : Nat) : List AV := (cs.drop off).take n
theorem sub_all (cs : List AV) : sub cs 0 cs.length = cs := by simp [sub]

/-- the cells that a slice shows, each place of n cells -/
def showK (M : Mem O) (n : Nat) (R : List AV → Prop) : AV → Prop
  | .nilS => R []
  | .sl id off len _ => getK (fun (o : AO O) => match o with
      | .cells _ cs => payK (decide (off + len * n ≤ cs.length)) (R (sub cs off (len * n)))
      | _ => False) M id
  | .vs cs len => payK (decide (cs.length = len * n)) (R cs)
  | _ => False

def lenK (R : Nat → Prop) : AV → Prop
  | .nilS => R 0
  | .sl _ _ len _ => R len
  | .vs _ n => R n
  | .str s => R s.length
  | _ => False

def convA (src dst : TypeId) (x : AV) (M : Mem O) (K : AV → Mem O → Prop) : Prop :=
  descK P (fun ds => descK P (fun dd => match ds, dd, x with
    | _, .int k, .int _ n => K (.int k (k.wrap n)) M
    | .string, .string, .str s => K (.str s) M
    | .string, .slice el, .str s => descK P (fun de => match de with
      | .int .u8 => appK (fun M' => K (.sl M.length 0 s.length s.length) M') [.cells (some 1) (encB s)] M
      | _ => False) el
    | .slice el, .string, x => descK P (fun de => match de with
      | .int .u8 => showK M 1 (fun cs => payK (cs.all AV.isB) (K (.str (decB cs)) M)) x
      | _ => False) el
    | .pointer el, .unsafePointer, .ptr id off => infoK P (fun i => payK (decide (i.size ≠ 0)) (atK M (headK fun _ => K (.ptr id off) M) (.ptr id off))) el
    | _, _, _ => False) dst) src

/-- a bound of a slice expression: not below 0, not above m -/
def boundK (e : Env) (m : Nat) (R : Nat → Prop) (x : Operand) : Prop :=
  evK e (numK fun _ n => payK (decide (0 ≤ n) && decide (n ≤ (m : Int))) (R n.toNat)) x

def lowK (e : Env) (lo : Option Operand) (R : Nat → Nat → Nat → Prop) (h m : Nat) : Prop := match lo with
  | some x => boundK e h (fun l => R l h m) x
  | none => R 0 h m

def boundsK (e : Env) (len cap : Nat) (R : Nat → Nat → Nat → Prop) (lo hi mx : Option Operand) : Prop :=
  match mx with
  | some x => boundK e cap (fun m => match hi with
    | some y => boundK e m (fun h => lowK e lo R h m) y
    | none => False) x
  | none => match hi with
    | some y => boundK e cap (fun h => lowK e lo R h cap) y
    | none => lowK e lo R len cap

def sliceA (e : Env) (t : TypeId) (x : AV) (lo hi mx : Option Operand) (M : Mem O) (K : AV → Mem O → Prop) : Prop :=
  descK P (fun d => match d, x with
    | .string, .str s => match mx with
      | none => boundsK e s.length s.length (fun l h _ => K (.str ((s.take h).drop l)) M) lo hi none
      | some _ => False
    | .slice el, .sl id off len cap => boundsK e len cap (fun l h m => sizeK P (fun n => getK (fun (o : AO O) => match o with
        | .cells none _ => K (.sl id (off + l * n) (h - l) (m - l)) M
        | .cells (some n') _ => payK (decide (n' = n)) (testK (decide (m = l)) (K (.vs [] 0) M) (K (.sl id (off + l * n) (h - l) (m - l)) M))
        | _ => False) M id) el) lo hi mx
    | .slice el, .vs cs len => match mx with
      | none => boundsK e len len (fun l h _ => sizeK P (fun n => payK (decide (cs.length = len * n)) (testK (decide (h = l)) (K (.vs [] 0) M) (K (.vs (sub cs (l * n) ((h - l) * n)) (h - l)) M))) el) lo hi none
      | some _ => False
    | .slice el, .nilS => boundsK e 0 0 (fun _ _ _ => sizeK P (fun _ => K .nilS M) el) lo hi mx
    | .array n el, .ptr id off => boundsK e n n (fun l h m => sizeK P (fun z => getK (fun (o : AO O) => match o with
        | .cells none _ => K (.sl id (off + l * z) (h - l) (m - l)) M
        | _ => False) M id) el) lo hi mx
    | _, _ => False) t

def fieldAddrA (t : TypeId) (x : AV) (f : Nat) (M : Mem O) (K : AV → Mem O → Prop) : Prop :=
  descK P (fun d => match d with
    | .struct fs => match fs[f]? with
      | some fl => sizeK P (fun n => payK (decide (n ≠ 0)) (match x with
        | .ptr id off => K (.ptr id (off + fl.offset)) M
        | .pv cs => dropK (fun l => K (.pv l) M) fl.offset cs
        | _ => False)) fl.type
      | none => False
    | _ => False) t

def fieldA (t : TypeId) (x : AV) (f : Nat) (M : Mem O) (K : AV → Mem O → Prop) : Prop :=
  match x with
  | .agg cs => descK P (fun d => match d with
    | .struct fs => match fs[f]? with
      | some fl => partK P fl.type fl.offset (fun v => K v M) cs
      | none => False
    | _ => False) t
  | _ => False

def indexAddrA (t : TypeId) (x i : AV) (M : Mem O) (K : AV → Mem O → Prop) : Prop :=
  numK (fun _ i => descK P (fun d => match d, x with
    | .array len el, .ptr id off => payK (decide (0 ≤ i) && decide (i < (len : Int))) (sizeK P (fun n => K (.ptr id (off + i.toNat * n)) M) el)
    | .slice el, .sl id off len _ => payK (decide (0 ≤ i) && decide (i < (len : Int))) (sizeK P (fun n => K (.ptr id (off + i.toNat * n)) M) el)
    | .slice el, .vs cs len => payK (decide (0 ≤ i) && decide (i < (len : Int))) (sizeK P (fun n => dropK (fun l => K (.pv l) M) (i.toNat * n) cs) el)
    | _, _ => False) t) i

def indexA (t : TypeId) (x i : AV) (M : Mem O) (K : AV → Mem O → Prop) : Prop :=
  numK (fun _ i => descK P (fun d => match d, x with
    | .array len el, .agg cs => payK (decide (0 ≤ i) && decide (i < (len : Int))) (sizeK P (fun n => partK P el (i.toNat * n) (fun v => K v M) cs) el)
    | .string, .str s => payK (decide (0 ≤ i) && decide (i < (s.length : Int))) (K (.int .u8 ((s.getD i.toNat 0).toNat : Int)) M)
    | _, _ => False) t) i

def makeSliceA (t : TypeId) (l c : AV) (M : Mem O) (K : AV → Mem O → Prop) : Prop :=
  numK (fun _ l => numK (fun _ c => descK P (fun d => match d with
    | .slice el => infoK P (fun i => payK (decide (0 ≤ l) && decide (l ≤ c) && decide (c ≤ 4611686018427387904) && decide ((i.bytes : Int) * c ≤ 281474976710656)) (
        zeroK P (fun z => payK (decide (z.length = i.size)) (appK (fun M' => K (.sl M.length 0 l.toNat c.toNat) M') [.cells none ((List.replicate c.toNat z).flatten)] M)) el)) el
    | _ => False) t) c) l

/-- a new row behind an append: so many bytes, and the cells -/
def growK (el : TypeId) (inf : TypeInfo) (need : Nat) (R : Prop) : Prop :=
  payK (decide (0 < inf.bytes) && decide (need * inf.bytes ≤ 140737488355328)) (zeroK P (fun z => payK (decide (z.length = inf.size)) R) el)

/-- the cells that are appended -/
def newsK (M : Mem O) (inf : TypeInfo) (x : AV) (R : List AV → Prop) : Prop := match x with
  | .str b => payK (decide (inf.size = 1)) (R (encB b))
  | x => showK M inf.size R x

def listy : TypeDesc → Bool
  | .string | .slice _ => true
  | _ => false

/-- cells are put behind a slice: where there is no room a new row; the old one is no more, but where it was exact -/
def pushA (el : TypeId) (inf : TypeInfo) (n : Nat) (new : List AV) (s : AV) (M : Mem O) (K : AV → Mem O → Prop) : Prop := match s with
  | .nilS => testK (decide (n = 0)) (K .nilS M) (growK P el inf n (appK (fun M' => K (.sl M.length 0 n n) M') [.cells (some inf.size) new] M))
  | .sl id off len cap => testK (decide (len + n ≤ cap))
      (getK (fun (o : AO O) => match o with
        | .cells ek cs => putK new (fun cs' => setK (AO.cells ek cs') (fun M' => K (.sl id off (len + n) cap) M') M id) (off + len * inf.size) cs
        | _ => False) M id)
      (growK P el inf (len + n) (getK (fun (o : AO O) => match o with
        | .cells none cs => payK (decide (off + len * inf.size ≤ cs.length)) (appK (fun M' => K (.sl M.length 0 (len + n) (len + n)) M') [.cells (some inf.size) (sub cs off (len * inf.size) ++ new)] M)
        | .cells (some z) cs => payK (decide (z = inf.size) && decide (off + len * inf.size ≤ cs.length)) (setK AO.dead (fun M1 => appK (fun M' => K (.sl M.length 0 (len + n) (len + n)) M') [.cells (some inf.size) (sub cs off (len * inf.size) ++ new)] M1) M id)
        | _ => False) M id))
  | _ => False

def appendA (ts : Array TypeId) (s x : AV) (M : Mem O) (K : AV → Mem O → Prop) : Prop :=
  match ts[0]?, ts[1]? with
  | some t, some u => descK P (fun d => descK P (fun du => match d with
    | .slice el => payK (listy du) (infoK P (fun inf => lenK (fun n => newsK M inf x fun new => pushA P el inf n new s M K) x) el)
    | _ => False) u) t
  | _, _ => False

def copyA (ts : Array TypeId) (d s : AV) (M : Mem O) (K : AV → Mem O → Prop) : Prop :=
  match ts[0]? with
  | some t => descK P (fun dd => match dd with
    | .slice el => infoK P (fun inf => lenK (fun n => lenK (fun m => newsK M inf s fun cs =>
        match d with
        | .nilS => K (.int .i64 0) M
        | .sl id off _ _ => getK (fun (o : AO O) => match o with
            | .cells ek ds => putK (cs.take (min n m * inf.size)) (fun ds' => setK (AO.cells ek ds') (fun M' => K (.int .i64 (min n m : Nat)) M') M id) off ds
            | _ => False) M id
        | _ => False) d) s) el
    | _ => False) t
  | none => False

def minsK (R : Int → Prop) (k : IntKind) (a : Int) : List AV → Prop
  | [] => R a
  | .int k' b :: r => payK (decide (k = k')) (minsK R k (min a b) r)
  | _ => False
def maxsK (R : Int → Prop) (k : IntKind) (a : Int) : List AV → Prop
  | [] => R a
  | .int k' b :: r => payK (decide (k = k')) (maxsK R k (max a b) r)
  | _ => False

def builtinA (b : Builtin) (ts : Array TypeId) (args : List AV) (M : Mem O) (K : AV → Mem O → Prop) : Prop :=
  match b, args with
  | .len, [x] => match ts[0]? with
    | some t => descK P (fun d => match d, x with
      | .array n _, _ => K (.int .i64 n) M
      | .pointer _, _ => False
      | .string, .str s => K (.int .i64 s.length) M
      | .slice _, .str _ => False
      | .slice _, x => lenK (fun n => K (.int .i64 n) M) x
      | _, _ => False) t
    | none => False
  | .cap, [x] => match ts[0]? with
    | some t => descK P (fun d => match d, x with
      | .slice _, .nilS => K (.int .i64 0) M
      | .slice _, .sl id _ _ cap => getK (fun (o : AO O) => match o with
        | .cells none _ => K (.int .i64 cap) M
        | _ => False) M id
      | _, _ => False) t
    | none => False
  | .append, [s, x] => appendA P ts s x M K
  | .copy, [d, s] => copyA P ts d s M K
  | .min, .int k a :: r => minsK (fun n => K (.int k n) M) k a r
  | .max, .int k a :: r => maxsK (fun n => K (.int k n) M) k a r
  | _, _ => False

end
end Go.Am
end
section
namespace Go.Am
open Go

/-- what a call asks: the value, the memory behind it, which of the old objects may have turned -/
abbrev CallP (O : Type) := FuncId → List AV → Mem O → (AV → Mem O → List Nat → Prop) → Prop

section
variable (P : Program) {O : Type} (C : CallP O)

def undefA : AV := .tup []

def putE (R : Env → Prop) (v : AV) (e : Env) : Option Tmp → Prop
  | none => R e
  | some t => setK v R e t

/-- an operation's guard: is it wanted? What the test was stands in its slot from now on. -/
def guardK (ops : List Oper) (R : Bool → Env → Prop) (e : Env) : Option (Nat × Bool) → Prop
  | none => R true e
  | some (j, want) => getK (fun o => match o.dst with
    | some t => getK (fun v => match v with
      | .bool b => testK b (setK (.bool true) (fun e' => R want e') e t) (setK (.bool false) (fun e' => R (!want) e') e t)
      | .tup _ => R false e
      | _ => False) e t
    | none => False) ops j

def extractA (x : AV) (i : Nat) (M : Mem O) (K : AV → Mem O → Prop) : Prop := match x with
  | .tup l => getK (fun v => K v M) l i
  | _ => False

/-- an operation that is no call of a Go function -/
def opA (o : Op) (e : Env) (M : Mem O) (K : AV → Mem O → Prop) : Prop :=
  match o with
  | .move x | .assign x => evK e (fun v => K v M) x
  | .pick c a b => evK e (bitK fun t => match t with
    | true => evK e (fun v => K v M) a
    | false => evK e (fun v => K v M) b) c
  | .alloc t => zeroK P (fun z => allocA z M K) t
  | .box _ x => evK e (fun v => payK v.storable (allocA v.cs M K)) x
  | .build t ps => partsK e (fun l => buildA P t l M K) ps.toList
  | .buildSlice t n ps => partsK e (fun l => buildSliceA P t n l M K) ps.toList
  | .load t a => evK e (fun p => loadA P t p M K) a
  | .store t a x => evK e (fun p => evK e (fun v => storeA P t p v M K) x) a
  | .nilCheck x => evK e (fun p => nilCheckA p M K) x
  | .binOp op t x y _ => evK e (fun a => evK e (fun b => binA P op t a b M K) y) x
  | .unOp op _ x => evK e (fun a => unA op a M K) x
  | .convert s d x => evK e (fun v => convA P s d v M K) x
  | .makeFunc (.func f) first captured => match captured.toList with
    | [] => evsK e (fun l => K (.fn f l) M) first.toList
    | _ => False
  | .makeSlice t l c => evK e (fun a => evK e (fun b => makeSliceA P t a b M K) c) l
  | .slice t x lo hi mx => evK e (fun v => sliceA P e t v lo hi mx M K) x
  | .fieldAddr t x f => evK e (fun v => fieldAddrA P t v f M K) x
  | .field t x f => evK e (fun v => fieldA P t v f M K) x
  | .indexAddr t x i => evK e (fun v => evK e (fun n => indexAddrA P t v n M K) i) x
  | .index t x i => evK e (fun v => evK e (fun n => indexA P t v n M K) i) x
  | .extract x i => evK e (fun v => extractA v i M K) x
  | .call c => match c.callee with
    | .builtin b => evsK e (fun l => builtinA P b c.argTypes l M K) c.args.toList
    | _ => False
  | _ => False

/-- a call of a Go function -/
def callA (c : Call) (e : Env) (M : Mem O) (K : AV → Mem O → List Nat → Prop) : Prop :=
  match c.callee with
  | .value x => evK e (fun v => match v with
    | .fn f first => evsK e (fun l => C f (first ++ l) M K) c.args.toList
    | _ => False) x
  | _ => False

def isCall : Op → Option Call
  | .call c => match c.callee with
    | .value _ => some c
    | _ => none
  | _ => none

def operA (o : Op) (e : Env) (M : Mem O) (K : AV → Mem O → Prop) : Prop :=
  match isCall o with
  | some c => callA C c e M fun v M' _ => K v M'
  | none => opA P o e M K

def opsA (ops : List Oper) (K : Env → Mem O → Prop) : List Oper → Env → Mem O → Prop
  | [], e, M => K e M
  | o :: rest, e, M => guardK ops (fun want e => match want with
    | true => operA P C o.op e M fun v M' => putE (fun e' => opsA ops K rest e' M') v e o.dst
    | false => putE (fun e' => opsA ops K rest e' M) undefA e o.dst) e o.guard

/-- a place where a walk may rest -/
inductive Rest (p : Prop) : Prop
  | mk : p → Rest p
theorem Rest.out {p : Prop} (h : Rest p) : p := by cases h; assumption

end
end Go.Am
end
section
namespace Go.Am
open Go

def bit (i : Nat) : Nat := Nat.pow 2 i
def has (m i : Nat) : Bool := Nat.testBit m i
def within (a b : Nat) : Bool := Nat.beq (Nat.land a b) a

def edgeOf (e : Edge) : Option Nat := match e.ground with
  | .textOnly _ | .gcOnly _ => none
  | _ => some e.on

def ancOf (acc : List Nat) : List Edge → Nat
  | [] => 0
  | e :: r => match edgeOf e with
    | some j => Nat.lor (Nat.lor (bit j) (acc.getD j 0)) (ancOf acc r)
    | none => ancOf acc r

/-- for each operation, which ones come first whatever the order: a set of numbers, as bits -/
def ancs : List Nat → List Oper → List Nat
  | acc, [] => acc
  | acc, o :: r => ancs (acc ++ [ancOf acc o.after.toList]) r

section
variable (P : Program) {O : Type} (C : CallP O)

def pureOp : Op → Bool
  | .move _ | .assign _ | .pick _ _ _ | .build _ _ | .buildSlice _ _ _ | .load _ _ | .nilCheck _ | .binOp _ _ _ _ _ | .unOp _ _ _ | .slice _ _ _ _ _ | .fieldAddr _ _ _ | .field _ _ _ | .indexAddr _ _ _ | .index _ _ _ | .extract _ _ => true
  | .convert _ d _ => match P.underlying d with
    | some (.slice _) => false
    | _ => true
  | .call c => match c.callee with
    | .builtin .len | .builtin .cap | .builtin .min | .builtin .max => true
    | _ => false
  | _ => false

/-- the operations that act -/
def actsOf : Nat → List Oper → List Nat
  | _, [] => []
  | i, o :: r => match pureOp P o.op with
    | true => actsOf (i + 1) r
    | false => i :: actsOf (i + 1) r

def maskOf : List Nat → Nat
  | [] => 0
  | i :: r => Nat.lor (bit i) (maskOf r)

/-- those of a list that may come next: none that is left comes ahead of them -/
def readyOf (an : List Nat) (left : Nat) : List Nat → List Nat
  | [] => []
  | i :: r => match Nat.beq (Nat.land (an.getD i 0) left) 0 with
    | true => i :: readyOf an left r
    | false => readyOf an left r

def without (i : Nat) : List Nat → List Nat
  | [] => []
  | j :: r => match Nat.beq i j with
    | true => r
    | false => j :: without i r

/-- all orders of the acting operations -/
def orders (an : List Nat) : Nat → List Nat → List Nat → List (List Nat)
  | 0, _, done => [done]
  | n + 1, left, done => (readyOf an (maskOf left) left).flatMap fun i => orders an n (without i left) (done ++ [i])

def allK {α : Type} (R : α → Prop) : List α → Prop
  | [] => True
  | a :: r => match r with
    | [] => R a
    | _ :: _ => R a ∧ allK R r

/-- the pure operations whose acting forerunners are all done, and that have not come yet -/
def batch (an : List Nat) (acts done seen : Nat) : Nat → List Nat → List Nat
  | _, [] => []
  | i, a :: r => match within (Nat.land a acts) done && !has acts i && !has seen i with
    | true => i :: batch an acts done seen (i + 1) r
    | false => batch an acts done seen (i + 1) r

def plan (an : List Nat) (acts : Nat) : Nat → Nat → List Nat → List Nat
  | done, seen, ord =>
    let b := batch an acts done seen 0 an
    b ++ match ord with
      | [] => []
      | e :: r => e :: plan an acts (Nat.lor done (bit e)) (Nat.lor seen (maskOf b)) r

/-- which old objects an operation looks into -/
def readsA (e : Env) (R : List Nat → Prop) : Op → Prop
  | .load _ a => evK e (fun p => match p with
    | .ptr id _ => R [id]
    | _ => R []) a
  | .convert _ _ x | .slice _ x _ _ _ => evK e (fun p => match p with
    | .sl id _ _ _ => R [id]
    | .ptr id _ => R [id]
    | _ => R []) x
  | .call c => match c.callee, c.args.toList with
    | .builtin .cap, [x] => evK e (fun p => match p with
      | .sl id _ _ _ => R [id]
      | _ => R []) x
    | _, _ => R []
  | _ => R []

/-- nothing that was read by an operation that need not come ahead is turned -/
def clear (an : Nat) (ch : List Nat) : List (Nat × List Nat) → Bool
  | [] => true
  | (j, R) :: r => (has an j || R.all fun i => !ch.contains i) && clear an ch r

/-- a pure operation in such a region: a slice literal is laid where nobody writes -/
def pureA (o : Op) (e : Env) (M : Mem O) (K : AV → Prop) : Prop := match o with
  | .buildSlice t n ps => partsK e (fun l => buildVsA P t n l M fun v _ => K v) ps.toList
  | o => opA P o e M fun v _ => K v

/-- an acting operation: which old objects it turns -/
def actA (o : Op) (e : Env) (M : Mem O) (K : AV → Mem O → List Nat → Prop) : Prop :=
  match isCall o with
  | some c => callA C c e M K
  | none => match o with
    | .store t a x => evK e (fun p => match p with
      | .ptr id _ => evK e (fun v => storeA P t p v M fun v' M' => K v' M' [id]) x
      | _ => False) a
    | .alloc _ | .box _ _ | .makeSlice _ _ _ | .convert _ _ _ => opA P o e M fun v M' => K v M' []
    | .call c => match c.callee, c.args.toList with
      | .builtin .append, x :: _ => evK e (fun p => match p with
        | .sl id _ _ _ => opA P o e M fun v M' => K v M' [id]
        | .nilS => opA P o e M fun v M' => K v M' []
        | _ => False) x
      | .builtin .copy, x :: _ => evK e (fun p => match p with
        | .sl id _ _ _ => opA P o e M fun v M' => K v M' [id]
        | .nilS => opA P o e M fun v M' => K v M' []
        | _ => False) x
      | _, _ => False
    | _ => False

def runA (ops : List Oper) (an : List Nat) (K : Env → Mem O → Prop) : List (Nat × List Nat) → List Nat → Env → Mem O → Prop
  | _, [], e, M => K e M
  | log, i :: rest, e, M => getK (fun o => guardK ops (fun want e => match want with
    | false => putE (fun e' => runA ops an K log rest e' M) undefA e o.dst
    | true => match pureOp P o.op with
      | true => readsA e (fun R => pureA P o.op e M fun v => putE (fun e' => runA ops an K (match R with | [] => log | R => (i, R) :: log) rest e' M) v e o.dst) o.op
      | false => actA P C o.op e M fun v M' ch => payK (clear (an.getD i 0) ch log) (putE (fun e' => runA ops an K log rest e' M') v e o.dst)) e o.guard) ops i

/-- the slots that an operation names -/
def slotOf : Operand → List Nat
  | .tmp t => [t]
  | _ => []
def slotsOf (ops : List Oper) (o : Oper) : List Nat :=
  (o.op.operands.toList.flatMap slotOf) ++ (match o.guard with
    | none => []
    | some (j, _) => match ops[j]? with
      | some p => p.dst.toList
      | none => [])

/-- each forerunner comes by an edge, and edges lead back -/
def upOk (ops : List Oper) (an : List Nat) : Bool :=
  ops.zipIdx.all fun (o, j) => (List.range ops.length).all fun i => !has (an.getD j 0) i || (decide (i < j) && o.after.toList.any fun e => match edgeOf e with
    | some k => decide (k < j) && (Nat.beq i k || has (an.getD k 0) i)
    | none => false)

/-- some order takes them all in -/
def fullOk (ops : List Oper) (m : Region.Mode) : Bool := Nat.beq (Region.linearise m ops.toArray 0).length ops.length

/-- who writes a slot, and who names it, come in one order -/
def slotOk (ops : List Oper) (an : List Nat) : Bool :=
  ops.zipIdx.all fun (o, j) => (o.dst.toList ++ slotsOf ops o).all fun t => ops.zipIdx.all fun (p, i) => decide (p.dst ≠ some t) || decide (i = j) || has (an.getD j 0) i || has (an.getD i 0) j

def backOk (an : List Nat) : List Nat → Bool
  | [] => true
  | x :: r => (r.all fun y => !has (an.getD x 0) y) && backOk an r

/-- the last acting operation ahead of a pure one is its forerunner -/
def eagerOk (an acts : List Nat) : Option Nat → List Nat → Bool
  | _, [] => true
  | last, x :: r => match acts.contains x with
    | true => eagerOk an acts (some x) r
    | false => (match last with | none => true | some y => has (an.getD x 0) y) && eagerOk an acts last r

def planOk (n : Nat) (an acts ord : List Nat) : Bool :=
  let pl := plan an (maskOf acts) 0 0 ord
  pl.isPerm (List.range n) && backOk an pl && eagerOk an acts none pl && pl.filter (fun x => acts.contains x) == ord

@[irreducible] def drawOk (ops : List Oper) (an acts : List Nat) : Bool :=
  upOk ops an && slotOk ops an && fullOk ops .any && fullOk ops .text && fullOk ops .gc && (orders an acts.length acts []).all fun ord => planOk ops.length an acts ord

def drawA (ops : List Oper) (K : Env → Mem O → Prop) (e : Env) (M : Mem O) : Prop :=
  let an := ancs [] ops
  let acts := actsOf P 0 ops
  payK (drawOk ops an acts) (allK (fun ord => runA P C ops an K [] (plan an (maskOf acts) 0 0 ord) e M) (orders an acts.length acts []))

end
end Go.Am
end
section
namespace Go.Am
open Go

/-- what stands behind a weaker view of the same memory: 'n' objects keep their places -/
abbrev EntP (O : Type) := Nat → Env → Mem O → Env → Mem O → Prop

section
variable (P : Program) {O : Type} (C : CallP O) (En : EntP O) (n : Nat)

/-- a loop: ghosts, an invariant, a measure; between two rounds the view may be made weaker -/
def loopA (body : Env → Mem O → (AX → Env → Mem O → Prop) → Prop) (e : Env) (M : Mem O) (Q : AX → Env → Mem O → Prop) : Prop :=
  ∃ (α : Type) (I : α → Env → Mem O → Prop) (μ : α → Nat), (∃ a e1 M1, En n e M e1 M1 ∧ I a e1 M1) ∧
    ∀ a e M, I a e M → body e M fun x e' M' => match x with
      | .normal => ∃ a' e'' M'', En n e' M' e'' M'' ∧ I a' e'' M'' ∧ μ a' < μ a
      | x => Q x e' M'

/-- so many rounds, one behind the other -/
def loopN (body : Env → Mem O → (AX → Env → Mem O → Prop) → Prop) (Q : AX → Env → Mem O → Prop) : Nat → Env → Mem O → Prop
  | 0, _, _ => False
  | k + 1, e, M => body e M fun x e' M' => match x with
    | .normal => loopN body Q k e' M'
    | x => Q x e' M'

def wpA : Code → Env → Mem O → (AX → Env → Mem O → Prop) → Prop
  | .skip, e, M, Q => Q .normal e M
  | .region _ ops false, e, M, Q => Rest (opsA P C ops.toList (Q .normal) ops.toList e M)
  | .region _ ops true, e, M, Q => drawA P C ops.toList (Q .normal) e M
  | .seq a b, e, M, Q => wpA a e M fun x e M => match x with
    | .normal => wpA b e M Q
    | x => Q x e M
  | .cond c a b, e, M, Q => evK e (bitK fun t => testK t (wpA a e M Q) (wpA b e M Q)) c
  | .block id body, e, M, Q => wpA body e M fun x e M => match x with
    | .exit id' => if id' = id then Q .normal e M else Q (.exit id') e M
    | x => Q x e M
  | .loop c, e, M, Q => loopA En n (wpA c) e M Q ∨ ∃ k, loopN (wpA c) Q k e M
  | .exit id, e, M, Q => Q (.exit id) e M
  | .ret, e, M, Q => Q .ret e M
  | _, _, _, _ => False

end

/-- a function's code -/
def bodyOf (f : Func) : Code := f.body.getD .skip
/-- its frame at the start -/
def frameOf (f : Func) (args : List AV) : List AV := args ++ List.replicate (f.ntmps - args.length) undefA

def resGo (e : Env) (R : List AV → Prop) : List ResultVar → Prop
  | [] => R []
  | .tmp t :: r => getK (fun v => resGo e (fun l => R (v :: l)) r) e t
  | .cell _ _ :: _ => False

/-- its results -/
def resultsK (f : Func) (e : Env) (R : AV → Prop) : Prop :=
  resGo e (fun l => match l with
    | [v] => R v
    | l => R (.tup l)) f.results.toList

end Go.Am
end
section
namespace Go.Am
open Go

def globs : List (Nat × (Array Value → Prop)) := [(0, fun A => ∃ m, A[0]? = some (.int .i64 m))]

end Go.Am
end
section
namespace Go.Am
open Go

/-- where an object lies: a block, from a cell on; how many cells an element has (none: its slices' capacities are known), how many cells are there -/
structure Loc where
  blk : Nat
  base : Nat
  ek : Option Nat
  room : Nat

/-- where objects lie; blocks that nobody writes, with all their cells -/
structure Ctx where
  at_ : Nat → Option Loc
  imm : Nat → Option (Array Value)

abbrev one (v : Value) : Prop := v.oneCell' = true

inductive VRel (κ : Ctx) : AV → Value → Prop
  | int (k n) : VRel κ (.int k n) (.int k n)
  | bool (b) : VRel κ (.bool b) (.bool b)
  | str (s : ByteArray) : VRel κ (.str s.data.toList) (.string s)
  | nilP : VRel κ .nilP (.pointer none)
  | ptr {id off L} : κ.at_ id = some L → VRel κ (.ptr id off) (.pointer (some ⟨L.blk, L.base + off, none⟩))
  | pv {cs b off A} (f : Nat → Value) : κ.imm b = some A → (∀ i, i < cs.length → A[off + i]? = some (f i) ∧ one (f i)) →
      (∀ i (h : i < cs.length), VRel κ cs[i] (f i)) → VRel κ (.pv cs) (.pointer (some ⟨b, off, none⟩))
  | nilS : VRel κ .nilS (.slice none 0 0)
  | sl {id off len cap L} : len ≤ cap → κ.at_ id = some L → L.ek = none → VRel κ (.sl id off len cap) (.slice (some ⟨L.blk, L.base + off, none⟩) len cap)
  | slz {id off L o} : κ.at_ id = some L → L.ek = none → VRel κ (.sl id off 0 0) (.slice (some ⟨L.blk, o, none⟩) 0 0)
  | slr {id off len cap L z c} : len ≤ cap → κ.at_ id = some L → L.ek = some z → cap ≤ c → off + c * z ≤ L.room →
      VRel κ (.sl id off len cap) (.slice (some ⟨L.blk, L.base + off, none⟩) len c)
  | vs {cs n b off c A} (f : Nat → Value) : n ≤ c → κ.imm b = some A → (∀ i, i < cs.length → A[off + i]? = some (f i) ∧ one (f i)) →
      (∀ i (h : i < cs.length), VRel κ cs[i] (f i)) → VRel κ (.vs cs n) (.slice (some ⟨b, off, none⟩) n c)
  | vs0 {a c} : VRel κ (.vs [] 0) (.slice a 0 c)
  | fn {f first A} : first.length = A.size → (∀ i (h : i < first.length) (h' : i < A.size), VRel κ first[i] A[i]) → VRel κ (.fn f first) (.func (.func f) A #[])
  | nilF : VRel κ .nilF .nilFunc
  | nilI : VRel κ .nilI .nilIface
  | ifc {t v w} : VRel κ v w → VRel κ (.ifc t v) (.iface t w)
  | agg {cs A} : cs.length = A.size → (∀ v, v ∈ A → one v) → (∀ i (h : i < cs.length) (h' : i < A.size), VRel κ cs[i] A[i]) → VRel κ (.agg cs) (.agg A)
  | tup {cs A} : cs.length = A.size → (∀ i (h : i < cs.length) (h' : i < A.size), VRel κ cs[i] A[i]) → VRel κ (.tup cs) (.tuple A)
  | und (v) : VRel κ .und v

/-- lists of values stand for arrays -/
def VRelL (κ : Ctx) (l : List AV) (A : Array Value) : Prop := l.length = A.size ∧ ∀ i (h : i < l.length) (h' : i < A.size), VRel κ l[i] A[i]

/-- a block's cells: no halves, none frozen -/
def Plain (A : Array Value) (fz : Nat × Nat) : Prop := (∀ v, v ∈ A → one v) ∧ ∀ i, i < A.size → ¬(fz.1 ≤ i ∧ i < fz.2)

variable {O : Type} (unf : O → List (AO O))

/-- what an object owns: blocks F -/
inductive Own : Ctx → AO O → Nat → (Nat → Prop) → World → Prop
  | dead {κ id F w} : Own κ .dead id F w
  | cells {κ ek cs id F w} (L : Loc) (A : Array Value) (t : TypeId) (fz : Nat × Nat) (f : Nat → Value) : κ.at_ id = some L → L.ek = ek → F L.blk → w.heap[L.blk]? = some (.cells A t fz) → Plain A fz →
      (∀ i, i < cs.length → A[L.base + i]? = some (f i)) → (∀ i (h : i < cs.length), VRel κ cs[i] (f i)) → (∀ z, ek = some z → A.size = L.base + L.room) → Own κ (.cells ek cs) id F w
  | obj {κ o id F w} (κi : Ctx) (Fi : Nat → Nat → Prop) (L : Loc) : κ.at_ id = some L → κi.imm = κ.imm → κi.at_ 0 = some L → (∀ i, (unf o).length ≤ i → κi.at_ i = none) →
      (∀ i (h : i < (unf o).length), Own κi (unf o)[i] i (Fi i) w) → (∀ i j b, i ≠ j → Fi i b → ¬Fi j b) → (∀ i b, Fi i b → F b) → Own κ (.obj o) id F w

/-- a memory stands for a part S of a world's blocks -/
structure Rep (κ : Ctx) (M : Mem O) (w : World) (S : Nat → Prop) : Prop where
  dom : ∀ i, M.length ≤ i → κ.at_ i = none
  own : ∃ F : Nat → Nat → Prop, (∀ i (h : i < M.length), Own unf κ M[i] i (F i) w) ∧ (∀ i j b, i ≠ j → F i b → ¬F j b) ∧ ∀ i b, F i b → S b
  lt : ∀ b, S b → b < w.heap.size
  imm : ∀ b A, κ.imm b = some A → ¬S b ∧ ∃ t fz, w.heap[b]? = some (.cells A t fz) ∧ True
  glob : ∀ b p, (b, p) ∈ globs → ∃ A, κ.imm b = some A ∧ p A

theorem Rep.globLe {κ κ' : Ctx} {M : Mem O} {w : World} {S : Nat → Prop} (h : Rep unf κ M w S) (hle : ∀ b A, κ.imm b = some A → κ'.imm b = some A) : ∀ b p, (b, p) ∈ globs → ∃ A, κ'.imm b = some A ∧ p A :=
  fun b p hb => by obtain ⟨A, h1, h2⟩ := h.glob b p hb; exact ⟨A, hle b A h1, h2⟩

/-- what a step may do: 'n' objects keep their places -/
structure Post (n : Nat) (κ : Ctx) (S : Nat → Prop) (w : World) (κ' : Ctx) (S' : Nat → Prop) (w' : World) : Prop where
  at_ : ∀ i, i < n → κ'.at_ i = κ.at_ i
  imm : ∀ b A, κ.imm b = some A → κ'.imm b = some A
  sub : ∀ b, S' b → S b ∨ w.heap.size ≤ b
  isub : ∀ b A, κ'.imm b = some A → κ.imm b = some A ∨ S b ∨ w.heap.size ≤ b
  same : ∀ b, b < w.heap.size → ¬S b → w'.heap[b]? = w.heap[b]?
  grow : w.heap.size ≤ w'.heap.size
  rest : w'.tape = w.tape ∧ w'.os = w.os ∧ w'.output = w.output

theorem Post.refl (n : Nat) (κ : Ctx) (S : Nat → Prop) (w : World) : Post n κ S w κ S w where
  at_ _ _ := rfl
  imm _ _ h := h
  sub _ h := .inl h
  isub _ _ h := .inl h
  same _ _ _ := rfl
  grow := Nat.le_refl _
  rest := ⟨rfl, rfl, rfl⟩

theorem Post.trans {n m : Nat} {κ S w κ' S' w' κ'' S'' w''} (h : Post n κ S w κ' S' w') (h' : Post m κ' S' w' κ'' S'' w'') (hm : n ≤ m) : Post n κ S w κ'' S'' w'' where
  at_ i hi := (h'.at_ i (Nat.lt_of_lt_of_le hi hm)).trans (h.at_ i hi)
  imm b A hb := h'.imm b A (h.imm b A hb)
  sub b hb := by
    rcases h'.sub b hb with h1 | h1
    · exact h.sub b h1
    · exact .inr (Nat.le_trans h.grow h1)
  isub b A hb := by
    rcases h'.isub b A hb with h1 | h1 | h1
    · exact h.isub b A h1
    · rcases h.sub b h1 with h2 | h2
      · exact .inr (.inl h2)
      · exact .inr (.inr h2)
    · exact .inr (.inr (Nat.le_trans h.grow h1))
  same b hb hS := by
    rw [h'.same b (Nat.lt_of_lt_of_le hb h.grow) ?_, h.same b hb hS]
    intro h1
    rcases h.sub b h1 with h2 | h2
    · exact hS h2
    · omega
  grow := Nat.le_trans h.grow h'.grow
  rest := ⟨h'.rest.1.trans h.rest.1, h'.rest.2.1.trans h.rest.2.1, h'.rest.2.2.trans h.rest.2.2⟩

theorem Post.mono {n m : Nat} {κ S w κ' S' w'} (h : Post n κ S w κ' S' w') (hm : m ≤ n) : Post m κ S w κ' S' w' :=
  { h with at_ := fun i hi => h.at_ i (Nat.lt_of_lt_of_le hi hm) }

/-- what a context says stands in a later one -/
structure Ctx.Le (κ κ' : Ctx) : Prop where
  at_ : ∀ i L, κ.at_ i = some L → κ'.at_ i = some L
  imm : ∀ b A, κ.imm b = some A → κ'.imm b = some A

theorem Ctx.Le.refl (κ : Ctx) : κ.Le κ := ⟨fun _ _ h => h, fun _ _ h => h⟩
theorem Ctx.Le.trans {κ κ' κ'' : Ctx} (h : κ.Le κ') (h' : κ'.Le κ'') : κ.Le κ'' := ⟨fun i L x => h'.at_ i L (h.at_ i L x), fun b A x => h'.imm b A (h.imm b A x)⟩

theorem VRel.le {κ κ' : Ctx} (hle : κ.Le κ') {a : AV} {v : Value} (h : VRel κ a v) : VRel κ' a v := by
  induction h with
  | int k n => exact .int k n
  | bool b => exact .bool b
  | str s => exact .str s
  | nilP => exact .nilP
  | ptr h => exact .ptr (hle.at_ _ _ h)
  | pv f h h1 _ ih => exact .pv f (hle.imm _ _ h) h1 ih
  | nilS => exact .nilS
  | sl h0 h h1 => exact .sl h0 (hle.at_ _ _ h) h1
  | slz h h1 => exact .slz (hle.at_ _ _ h) h1
  | slr h0 h h1 h2 h3 => exact .slr h0 (hle.at_ _ _ h) h1 h2 h3
  | vs f h0 h h1 _ ih => exact .vs f h0 (hle.imm _ _ h) h1 ih
  | vs0 => exact .vs0
  | fn h _ ih => exact .fn h ih
  | nilF => exact .nilF
  | nilI => exact .nilI
  | ifc _ ih => exact .ifc ih
  | agg h h1 _ ih => exact .agg h h1 ih
  | tup h _ ih => exact .tup h ih
  | und v => exact .und v

theorem VRelL.le {κ κ' : Ctx} (hle : κ.Le κ') {l : List AV} {A : Array Value} (h : VRelL κ l A) : VRelL κ' l A := ⟨h.1, fun i a b => (h.2 i a b).le hle⟩

/-- what is owned hangs on the owned blocks alone -/
theorem Own.keep {κ κ' : Ctx} {o : AO O} {id : Nat} {F : Nat → Prop} {w w' : World} (h : Own unf κ o id F w) (hle : κ.Le κ') (hw : ∀ b, F b → w'.heap[b]? = w.heap[b]?) : Own unf κ' o id F w' := by
  induction h generalizing κ' with
  | dead => exact .dead
  | cells L A t fz f h1 h2 h3 h4 h5 h6 h7 h8 => exact .cells L A t fz f (hle.at_ _ _ h1) h2 h3 ((hw _ h3).trans h4) h5 h6 (fun i hi => (h7 i hi).le hle) h8
  | @obj κ o id F w κi Fi L h1 h2 h3 h4 h5 h6 h7 ih =>
    refine .obj { κi with imm := κ'.imm } Fi L (hle.at_ _ _ h1) rfl h3 h4 (fun i hi => ?_) h6 h7
    exact ih i hi ⟨fun _ _ x => x, fun b A x => hle.imm b A (h2 ▸ x)⟩ fun b hb => hw b (h7 i b hb)

theorem Own.mono {κ : Ctx} {o : AO O} {id : Nat} {F F' : Nat → Prop} {w : World} (h : Own unf κ o id F w) (hF : ∀ b, F b → F' b) : Own unf κ o id F' w := by
  cases h with
  | dead => exact .dead
  | cells L A t fz f h1 h2 h3 h4 h5 h6 h7 h8 => exact .cells L A t fz f h1 h2 (hF _ h3) h4 h5 h6 h7 h8
  | obj κi Fi L h1 h2 h3 h4 h5 h6 h7 => exact .obj κi Fi L h1 h2 h3 h4 h5 h6 fun i b hb => hF _ (h7 i b hb)

end Go.Am
end
section
namespace Go.Am
open Go

/-- a block is laid anew -/
def put (w : World) (g : Nat) (o : Obj) : World := { w with heap := w.heap.setIfInBounds g o }

theorem put_same {w : World} {g : Nat} {o : Obj} (h : g < w.heap.size) : (put w g o).heap[g]? = some o := by simp [put, h]
theorem put_other {w : World} {g b : Nat} {o : Obj} (h : b ≠ g) : (put w g o).heap[b]? = w.heap[b]? := by
  simp [put, Ne.symm h]
theorem put_size {w : World} {g : Nat} {o : Obj} : (put w g o).heap.size = w.heap.size := by simp [put]

theorem lt_of_heap {w : World} {g : Nat} {o : Obj} (h : w.heap[g]? = some o) : g < w.heap.size := (Array.getElem?_eq_some_iff.1 h).1

theorem cell_of {w : World} {g i : Nat} {A : Array Value} {t : TypeId} {fz : Nat × Nat} (h : w.heap[g]? = some (.cells A t fz)) : w.cell? ⟨g, i, none⟩ = A[i]? := by
  simp [World.cell?, h]
theorem frozen_of {w : World} {g i : Nat} {A : Array Value} {t : TypeId} {fz : Nat × Nat} (h : w.heap[g]? = some (.cells A t fz)) (hp : Plain A fz) (hi : i < A.size) : w.frozen? ⟨g, i, none⟩ = false := by
  obtain ⟨lo, hi'⟩ := fz
  have := hp.2 i hi
  simp only [World.frozen?, h]
  simpa using this

theorem setCell_of {w : World} {g i : Nat} {A : Array Value} {t : TypeId} {fz : Nat × Nat} (h : w.heap[g]? = some (.cells A t fz)) (v : Value) : w.setCell ⟨g, i, none⟩ v = put w g (.cells (A.setIfInBounds i v) t fz) := by
  unfold World.setCell put
  congr 1
  apply Array.ext_getElem?
  intro k
  simp only [Array.getElem?_modify, Array.getElem?_setIfInBounds, Option.isSome_none, Bool.false_eq_true, if_false]
  by_cases hk : g = k
  · subst hk; simp only [h, if_true, lt_of_heap h]; rfl
  · simp [hk]

theorem put_put (w : World) (g : Nat) (o o' : Obj) : put (put w g o) g o' = put w g o' := by
  unfold put
  congr 1
  apply Array.ext_getElem?
  intro k
  simp only [Array.getElem?_setIfInBounds, Array.size_setIfInBounds]
  split <;> rfl

theorem put_self {w : World} {g : Nat} {o : Obj} (h : w.heap[g]? = some o) : put w g o = w := by
  cases w with
  | mk heap tape drawn os output =>
    unfold put
    congr 1
    apply Array.ext_getElem?
    intro k
    simp only [Array.getElem?_setIfInBounds]
    split
    · rename_i hk; subst hk
      rw [h, if_pos (Array.getElem?_eq_some_iff.1 h).1]
    · rfl

/-- cells laid over an array -/
def spl (A : Array Value) (k : Nat) : List Value → Array Value
  | [] => A
  | v :: r => spl (A.setIfInBounds k v) (k + 1) r

theorem spl_size (A : Array Value) (k : Nat) (vs : List Value) : (spl A k vs).size = A.size := by
  induction vs generalizing A k with
  | nil => rfl
  | cons v r ih => simp [spl, ih]

theorem spl_in {A : Array Value} {k : Nat} {vs : List Value} (h : k + vs.length ≤ A.size) {j : Nat} (hj : j < vs.length) : (spl A k vs)[k + j]? = vs[j]? := by
  induction vs generalizing A k j with
  | nil => simp at hj
  | cons v r ih =>
    simp only [List.length_cons] at h hj
    cases j with
    | zero =>
      have : ∀ (B : Array Value) (m : Nat) (l : List Value), k < m → (spl B m l)[k]? = B[k]? := by
        intro B m l
        induction l generalizing B m with
        | nil => intro _; rfl
        | cons x l ih => intro hm; rw [spl, ih _ _ (by omega)]; simp [Array.getElem?_setIfInBounds]; omega
      rw [Nat.add_zero, show spl A k (v :: r) = spl (A.setIfInBounds k v) (k + 1) r from rfl, this _ _ _ (Nat.lt_succ_self k)]
      have : k < A.size := by omega
      simp [this]
    | succ j =>
      have := ih (A := A.setIfInBounds k v) (k := k + 1) (j := j) (by simp; omega) (by omega)
      rw [show spl A k (v :: r) = spl (A.setIfInBounds k v) (k + 1) r from rfl, show k + (j + 1) = k + 1 + j from by omega, this]
      simp

theorem spl_out {A : Array Value} {k : Nat} {vs : List Value} {j : Nat} (hj : j < k ∨ k + vs.length ≤ j) : (spl A k vs)[j]? = A[j]? := by
  induction vs generalizing A k with
  | nil => rfl
  | cons v r ih =>
    simp only [List.length_cons] at hj
    rw [show spl A k (v :: r) = spl (A.setIfInBounds k v) (k + 1) r from rfl, ih (by omega)]
    simp [Array.getElem?_setIfInBounds]
    omega

theorem spl_one {A : Array Value} {k : Nat} {vs : List Value} (hA : ∀ v, v ∈ A → one v) (hv : ∀ v, v ∈ vs → one v) : ∀ v, v ∈ spl A k vs → one v := by
  induction vs generalizing A k with
  | nil => exact hA
  | cons x r ih =>
    refine ih (fun v h => ?_) (fun v h => hv v (by simp [h]))
    rcases Array.mem_or_eq_of_mem_setIfInBounds h with h1 | h1
    · exact hA v h1
    · subst h1; exact hv v (by simp)

theorem spl_plain {A : Array Value} {k : Nat} {vs : List Value} {fz : Nat × Nat} (hA : Plain A fz) (hv : ∀ v, v ∈ vs → one v) : Plain (spl A k vs) fz :=
  ⟨spl_one hA.1 hv, fun i hi => hA.2 i (by rwa [spl_size] at hi)⟩

variable (P : Program)

theorem run_storeCells {g o : Nat} {t : TypeId} {fz : Nat × Nat} : ∀ (vs : List Value) (i : Nat) (A : Array Value) (w : World), w.heap[g]? = some (.cells A t fz) → Plain A fz →
    o + i + vs.length ≤ A.size → (∀ v, v ∈ vs → one v) → (storeCells ⟨g, o, none⟩ vs i).run P w = .ok () (put w g (.cells (spl A (o + i) vs) t fz))
  | [], i, A, w, h, _, _, _ => by simp [storeCells, spl, put_self h]
  | v :: r, i, A, w, h, hp, hs, hv => by
    simp only [List.length_cons] at hs
    have hadd : (⟨g, o, none⟩ : Addr).add i = ⟨g, o + i, none⟩ := by
      unfold Addr.add; split
      · rename_i h0; subst h0; rfl
      · rfl
    have hA : o + i < A.size := by omega
    simp only [storeCells, Sem.run_bind, hadd]
    rw [run_store P w _ v _ (hv v (by simp)), cell_of h, Array.getElem?_eq_getElem hA]
    simp only [frozen_of h hp hA, setCell_of h, Bool.false_eq_true, if_false, Result.andThen_ok]
    have h1 : (put w g (.cells (A.setIfInBounds (o + i) v) t fz)).heap[g]? = some (.cells (A.setIfInBounds (o + i) v) t fz) := put_same (lt_of_heap h)
    have hp1 : Plain (A.setIfInBounds (o + i) v) fz := by
      have := spl_plain (k := o + i) (vs := [v]) hp (by intro x hx; simp at hx; subst hx; exact hv _ (by simp))
      exact this
    rw [run_storeCells r (i + 1) _ _ h1 hp1 (by simp; omega) (fun x hx => hv x (by simp [hx])), put_put, ← Nat.add_assoc]
    rfl

/-- a run of cells is read -/
theorem run_loadCells' {g o n : Nat} {A : Array Value} {t : TypeId} {fz : Nat × Nat} {w : World} (h : w.heap[g]? = some (.cells A t fz)) (f : Nat → Value) (hn : ∀ j, j < n → A[o + j]? = some (f j)) :
    (loadCells ⟨g, o, none⟩ n).run P w = .ok ((List.range n).map f).toArray w := by
  have hadd : ∀ j, (⟨g, o, none⟩ : Addr).add j = ⟨g, o + j, none⟩ := by
    intro j; unfold Addr.add; split
    · rename_i h0; subst h0; rfl
    · rfl
  exact run_loadCells (P := P) (w := w) ⟨g, o, none⟩ n f (by
    intro j hj
    rw [hadd, cell_of h, hn j hj])

end Go.Am
end
section
namespace Go.Am
open Go

variable {O : Type} {unf : O → List (AO O)}

theorem VRelL.get {κ : Ctx} {l : List AV} {A : Array Value} (h : VRelL κ l A) {i : Nat} {v : AV} (hi : l[i]? = some v) : ∃ c, A[i]? = some c ∧ VRel κ v c := by
  obtain ⟨hlt, rfl⟩ := List.getElem?_eq_some_iff.1 hi
  have hA : i < A.size := h.1 ▸ hlt
  exact ⟨A[i], Array.getElem?_eq_getElem hA, h.2 i hlt hA⟩

theorem Rep.cells {κ : Ctx} {M : Mem O} {w : World} {S : Nat → Prop} (hR : Rep unf κ M w S) {id : Nat} {ek : Option Nat} {cs : List AV} (h : M[id]? = some (.cells ek cs)) :
    ∃ L A t fz, κ.at_ id = some L ∧ L.ek = ek ∧ S L.blk ∧ w.heap[L.blk]? = some (.cells A t fz) ∧ Plain A fz ∧ (∀ i (h : i < cs.length), ∃ v, A[L.base + i]? = some v ∧ VRel κ cs[i] v) ∧ (∀ z, ek = some z → A.size = L.base + L.room) := by
  obtain ⟨hlt, hM⟩ := List.getElem?_eq_some_iff.1 h
  obtain ⟨F, hF, _, hS⟩ := hR.own
  have := hF id hlt
  rw [hM] at this
  cases this with
  | cells L A t fz f h1 h2 h3 h4 h5 h6 h7 h8 => exact ⟨L, A, t, fz, h1, h2, hS _ _ h3, h4, h5, fun i hi => ⟨f i, h6 i hi, h7 i hi⟩, h8⟩

/-- the world has turned outside of what is owned: nothing is lost -/
theorem Rep.keep {κ : Ctx} {M : Mem O} {w w' : World} {S : Nat → Prop} (hR : Rep unf κ M w S) (hs : ∀ b, b < w.heap.size → w'.heap[b]? = w.heap[b]?) (hg : w.heap.size ≤ w'.heap.size) : Rep unf κ M w' S where
  dom := hR.dom
  own := by
    obtain ⟨F, hF, hd, hS⟩ := hR.own
    exact ⟨F, fun i hi => (hF i hi).keep unf (Ctx.Le.refl κ) fun b hb => hs b (hR.lt b (hS i b hb)), hd, hS⟩
  lt b hb := Nat.lt_of_lt_of_le (hR.lt b hb) hg
  imm b A hb := by
    obtain ⟨h1, t, fz, h2, h3⟩ := hR.imm b A hb
    exact ⟨h1, t, fz, (hs b (lt_of_heap h2)).trans h2, h3⟩
  glob := hR.glob

theorem exists_fun {n : Nat} {p : (i : Nat) → i < n → Value → Prop} (h : ∀ i (hi : i < n), ∃ v, p i hi v) : ∃ f : Nat → Value, ∀ i (hi : i < n), p i hi (f i) := by
  refine ⟨fun i => if hi : i < n then Classical.choose (h i hi) else undef, fun i hi => ?_⟩
  simp only [hi, dif_pos]
  exact Classical.choose_spec (h i hi)

/-- a new block, a new object -/
theorem Rep.alloc {κ : Ctx} {M : Mem O} {w w' : World} {S : Nat → Prop} (hR : Rep unf κ M w S) {A : Array Value} {t : TypeId} {fz : Nat × Nat} (hh : w'.heap = w.heap.push (.cells A t fz))
    (hr : w'.tape = w.tape ∧ w'.os = w.os ∧ w'.output = w.output) (hp : Plain A fz) (ek : Option Nat) (cs : List AV) (hc : ∀ i (h : i < cs.length), ∃ v, A[i]? = some v ∧ VRel κ cs[i] v) :
    ∃ κ' S', Rep unf κ' (M ++ [.cells ek cs]) w' S' ∧ κ.Le κ' ∧ Post M.length κ S w κ' S' w' ∧ κ'.at_ M.length = some ⟨w.heap.size, 0, ek, A.size⟩ := by
  have hle : κ.Le { κ with at_ := fun i => if i = M.length then some ⟨w.heap.size, 0, ek, A.size⟩ else κ.at_ i } := by
    refine ⟨fun i L h => ?_, fun _ _ h => h⟩
    simp only
    split
    · rename_i hi; rw [hR.dom i (by omega)] at h; cases h
    · exact h
  have hold : ∀ b, b < w.heap.size → w'.heap[b]? = w.heap[b]? := by
    intro b hb
    rw [hh, Array.getElem?_push]
    simp [show b ≠ w.heap.size by omega]
  have hnew : w'.heap[w.heap.size]? = some (.cells A t fz) := by simp [hh]
  refine ⟨{ κ with at_ := fun i => if i = M.length then some ⟨w.heap.size, 0, ek, A.size⟩ else κ.at_ i }, fun b => S b ∨ b = w.heap.size, ⟨?_, ?_, ?_, ?_, hR.globLe unf hle.imm⟩, hle, ⟨?_, ?_, ?_, ?_, ?_, ?_, hr⟩, by simp⟩
  · intro i hi
    simp at hi
    simp only
    split
    · omega
    · exact hR.dom i (by omega)
  · obtain ⟨F, hF, hd, hS⟩ := hR.own
    refine ⟨fun i b => if i = M.length then b = w.heap.size else i < M.length ∧ F i b, fun i hi => ?_, fun i j b hij h1 h2 => ?_, fun i b hb => ?_⟩
    · simp at hi
      by_cases hl : i = M.length
      · subst hl
        simp only [List.getElem_append_right (Nat.le_refl _), Nat.sub_self, List.getElem_singleton, if_true]
        obtain ⟨f, hf⟩ := exists_fun hc
        refine .cells ⟨w.heap.size, 0, ek, A.size⟩ A t fz f (by simp) rfl rfl hnew hp (fun i hi => ?_) (fun i hi => (hf i hi).2.le hle) (fun z _ => by simp)
        simpa using (hf i hi).1
      · have hlt : i < M.length := by omega
        rw [List.getElem_append_left hlt]
        refine ((hF i hlt).keep unf hle fun b hb => hold b (hR.lt b (hS i b hb))).mono unf fun b hb => ?_
        simp [hl, hlt, hb]
    · by_cases hi : i = M.length
      · subst hi
        simp only [if_true] at h1
        simp only [if_neg (Ne.symm hij)] at h2
        have := hR.lt b (hS _ _ h2.2)
        omega
      · by_cases hj : j = M.length
        · subst hj
          simp only [if_true] at h2
          simp only [if_neg hi] at h1
          have := hR.lt b (hS _ _ h1.2)
          omega
        · simp only [if_neg hi] at h1
          simp only [if_neg hj] at h2
          exact hd i j b hij h1.2 h2.2
    · by_cases hi : i = M.length
      · simp only [if_pos hi] at hb; exact .inr hb
      · simp only [if_neg hi] at hb; exact .inl (hS i b hb.2)
  · intro b hb
    rw [hh]
    rcases hb with hb | hb
    · have := hR.lt b hb; simp; omega
    · subst hb; simp
  · intro b A' hb
    obtain ⟨h1, t', fz', h2, h3⟩ := hR.imm b A' hb
    have hlt := lt_of_heap h2
    exact ⟨fun h => h.elim h1 (by omega), t', fz', (hold b hlt).trans h2, h3⟩
  · intro i hi; simp [show i ≠ M.length by omega]
  · exact fun _ _ h => h
  · intro b hb; exact hb.imp id (fun h => by omega)
  · exact fun _ _ h => .inl h
  · exact fun b hb _ => hold b hb
  · rw [hh]; simp

/-- a new block that nobody writes -/
theorem Rep.allocImm {κ : Ctx} {M : Mem O} {w w' : World} {S : Nat → Prop} (hR : Rep unf κ M w S) {A : Array Value} {t : TypeId} {fz : Nat × Nat} (hh : w'.heap = w.heap.push (.cells A t fz))
    (hr : w'.tape = w.tape ∧ w'.os = w.os ∧ w'.output = w.output) (hp : ∀ v, v ∈ A → one v) :
    ∃ κ', Rep unf κ' M w' S ∧ κ.Le κ' ∧ Post M.length κ S w κ' S w' ∧ κ'.imm w.heap.size = some A ∧ κ'.at_ = κ.at_ := by
  have hold : ∀ b, b < w.heap.size → w'.heap[b]? = w.heap[b]? := by
    intro b hb
    rw [hh, Array.getElem?_push]
    simp [show b ≠ w.heap.size by omega]
  have hnone : κ.imm w.heap.size = none := by
    cases h : κ.imm w.heap.size with
    | none => rfl
    | some A' => obtain ⟨_, _, _, h2, _⟩ := hR.imm _ _ h; have := lt_of_heap h2; omega
  have hle : κ.Le { κ with imm := fun b => if b = w.heap.size then some A else κ.imm b } := by
    refine ⟨fun _ _ h => h, fun b A' h => ?_⟩
    simp only
    split
    · rename_i hb; subst hb; rw [hnone] at h; cases h
    · exact h
  refine ⟨{ κ with imm := fun b => if b = w.heap.size then some A else κ.imm b }, ⟨hR.dom, ?_, ?_, ?_, hR.globLe unf hle.imm⟩, hle, ⟨fun _ _ => rfl, hle.imm, fun _ h => .inl h, ?_, fun b hb _ => hold b hb, by rw [hh]; simp, hr⟩, by simp, rfl⟩
  · obtain ⟨F, hF, hd, hS⟩ := hR.own
    exact ⟨F, fun i hi => (hF i hi).keep unf hle fun b hb => hold b (hR.lt b (hS i b hb)), hd, hS⟩
  · intro b hb; have := hR.lt b hb; rw [hh]; simp; omega
  · intro b A' hb
    simp only at hb
    split at hb
    · rename_i he; subst he
      cases hb
      exact ⟨fun h => by have := hR.lt _ h; omega, t, fz, by simp [hh], trivial⟩
    · obtain ⟨h1, t', fz', h2, h3⟩ := hR.imm b A' hb
      exact ⟨h1, t', fz', (hold b (lt_of_heap h2)).trans h2, h3⟩
  · intro b A' hb
    simp only at hb
    split at hb
    · rename_i he; exact .inr (.inr (by omega))
    · exact .inl hb

/-- an object's block is laid anew, of the same size -/
theorem Rep.set {κ : Ctx} {M : Mem O} {w : World} {S : Nat → Prop} (hR : Rep unf κ M w S) {id : Nat} {ek : Option Nat} {cs : List AV} (h : M[id]? = some (.cells ek cs)) {L : Loc} (hL : κ.at_ id = some L)
    {A A' : Array Value} {t : TypeId} {fz : Nat × Nat} (hA : w.heap[L.blk]? = some (.cells A t fz)) (hp : Plain A' fz) (hs : A'.size = A.size) (cs' : List AV) (hc : ∀ i (h : i < cs'.length), ∃ v, A'[L.base + i]? = some v ∧ VRel κ cs'[i] v) :
    Rep unf κ (M.set id (.cells ek cs')) (put w L.blk (.cells A' t fz)) S ∧ Post M.length κ S w κ S (put w L.blk (.cells A' t fz)) := by
  obtain ⟨hlt, hM⟩ := List.getElem?_eq_some_iff.1 h
  obtain ⟨L', A0, t0, fz0, hL', hek, hSL, hA0, _, _, hroom⟩ := hR.cells h
  rw [hL] at hL'; cases hL'
  rw [hA] at hA0; cases hA0
  refine ⟨⟨fun i hi => hR.dom i (by simpa using hi), ?_, fun b hb => by rw [put_size]; exact hR.lt b hb, ?_, hR.glob⟩, ⟨fun _ _ => rfl, fun _ _ h => h, fun _ h => .inl h, fun _ _ h => .inl h, ?_, by rw [put_size]; exact Nat.le_refl _, ⟨rfl, rfl, rfl⟩⟩⟩
  · obtain ⟨F, hF, hd, hS⟩ := hR.own
    have hFL : F id L.blk := by
      have := hF id hlt
      rw [hM] at this
      cases this with
      | cells L1 A1 t1 fz1 f h1 h2 h3 h4 h5 h6 h7 h8 => rw [hL] at h1; cases h1; exact h3
    refine ⟨F, fun i hi => ?_, hd, hS⟩
    simp at hi
    by_cases hid : i = id
    · subst hid
      rw [List.getElem_set_self]
      obtain ⟨f, hf⟩ := exists_fun hc
      exact .cells L A' t fz f hL hek hFL (put_same (lt_of_heap hA)) hp (fun i hi => (hf i hi).1) (fun i hi => (hf i hi).2) (fun z hz => by rw [hs]; exact hroom z hz)
    · rw [List.getElem_set_ne (Ne.symm hid)]
      exact (hF i hi).keep unf (Ctx.Le.refl κ) fun b hb => put_other (fun hb' => hd i id b hid hb (by rw [hb']; exact hFL))
  · intro b A1 hb
    obtain ⟨h1, t', fz', h2, h3⟩ := hR.imm b A1 hb
    refine ⟨h1, t', fz', (put_other (fun hb' => h1 ?_)).trans h2, h3⟩
    rw [hb']; exact hSL
  · intro b _ hS
    exact put_other fun hb' => hS (by rw [hb']; exact hSL)

/-- an object is given up -/
theorem Rep.dead {κ : Ctx} {M : Mem O} {w : World} {S : Nat → Prop} (hR : Rep unf κ M w S) (id : Nat) : Rep unf κ (M.set id .dead) w S where
  dom i hi := hR.dom i (by simpa using hi)
  own := by
    obtain ⟨F, hF, hd, hS⟩ := hR.own
    refine ⟨F, fun i hi => ?_, hd, hS⟩
    simp at hi
    by_cases h : id = i
    · subst h; rw [List.getElem_set_self]; exact .dead
    · rw [List.getElem_set_ne h]; exact hF i hi
  lt := hR.lt
  imm := hR.imm
  glob := hR.glob

end Go.Am
end
section
namespace Go.Am
open Go

variable {O : Type} {unf : O → List (AO O)} {P : Program}

theorem ofCell_rel (κ : Ctx) (v : Value) : VRel κ (ofCell v) v := by
  unfold ofCell
  split
  · exact .bool _
  · exact .int _ _
  · exact .str _
  · exact .nilP
  · exact .nilS
  · exact .nilF
  · exact .nilI
  · exact .und _

theorem ofVal_rel (κ : Ctx) (v : Value) : VRel κ (ofVal v) v := by
  unfold ofVal
  split
  · rename_i cs
    split
    · rename_i h
      refine .agg (by simp) (fun v hv => ?_) (fun i h1 h2 => ?_)
      · simp only [List.all_eq_true] at h
        exact h v (by simpa using hv)
      · simp only [List.getElem_map, Array.getElem_toList]
        exact ofCell_rel κ _
    · exact .und _
  · exact ofCell_rel κ _

theorem constK_sound {κ : Ctx} {R : AV → Prop} {v : Value} (h : constK R v) : ∃ a, R a ∧ VRel κ a v := by
  unfold constK at h
  split at h
  · exact ⟨_, h, .bool _⟩
  · exact ⟨_, h, .int _ _⟩
  · exact ⟨_, h, ofVal_rel κ _⟩

theorem evK_sound {κ : Ctx} {e : Env} {a : Act} (hE : VRelL κ e a.tmps) {R : AV → Prop} {x : Operand} (h : evK e R x) : ∃ v, R v ∧ VRel κ v (a.eval x) := by
  cases x with
  | tmp t =>
    obtain ⟨v, hv, hR⟩ := getK_iff.1 h
    obtain ⟨c, hc, hr⟩ := hE.get hv
    refine ⟨v, hR, ?_⟩
    simpa [Act.eval, Array.getD_eq_getD_getElem?, hc] using hr
  | const v => exact constK_sound h
  | global g => exact h.elim
  | func f => exact ⟨_, h, .fn rfl (fun i h _ => by simp at h)⟩

theorem evsK_sound {κ : Ctx} {e : Env} {a : Act} (hE : VRelL κ e a.tmps) {l : List Operand} {R : List AV → Prop} (h : evsK e R l) : ∃ vs, R vs ∧ VRelL κ vs (l.map a.eval).toArray := by
  induction l generalizing R with
  | nil => exact ⟨[], h, by simp [VRelL]⟩
  | cons x r ih =>
    obtain ⟨v, hv, hr⟩ := evK_sound hE h
    obtain ⟨vs, hvs, hrs⟩ := ih hv
    refine ⟨v :: vs, hvs, by have := hrs.1; simp at this ⊢; exact this, fun i h1 h2 => ?_⟩
    cases i with
    | zero => simpa using hr
    | succ i =>
      have := hrs.2 i (by simpa using h1) (by simpa using h2)
      simpa using this

/-- numbered parts -/
inductive PRel (κ : Ctx) : List (Nat × AV) → List (Nat × Value) → Prop
  | nil : PRel κ [] []
  | cons {i a v l m} : VRel κ a v → PRel κ l m → PRel κ ((i, a) :: l) ((i, v) :: m)

theorem partsK_sound {κ : Ctx} {e : Env} {a : Act} (hE : VRelL κ e a.tmps) {l : List (Nat × Operand)} {R : List (Nat × AV) → Prop} (h : partsK e R l) :
    ∃ vs, R vs ∧ PRel κ vs (l.map fun x => (x.1, a.eval x.2)) := by
  induction l generalizing R with
  | nil => exact ⟨[], h, .nil⟩
  | cons x r ih =>
    obtain ⟨i, x⟩ := x
    obtain ⟨v, hv, hr⟩ := evK_sound hE h
    obtain ⟨vs, hvs, hrs⟩ := ih hv
    exact ⟨_, hvs, .cons hr hrs⟩

theorem descK_iff {R : TypeDesc → Prop} {t : TypeId} : descK P R t ↔ ∃ d, P.underlying t = some d ∧ R d := by
  unfold descK; cases P.underlying t <;> simp
theorem infoK_iff {R : TypeInfo → Prop} {t : TypeId} : infoK P R t ↔ ∃ d, P.info? t = some d ∧ R d := by
  unfold infoK; cases P.info? t <;> simp

theorem run_und {t : TypeId} {d : TypeDesc} (h : P.underlying t = some d) (w : World) : (underlying t).run P w = .ok d w := by simp [underlying, h]
theorem run_info {t : TypeId} {i : TypeInfo} (h : P.info? t = some i) (w : World) : (typeInfo t).run P w = .ok i w := by simp [typeInfo, h]
theorem run_size {t : TypeId} {i : TypeInfo} (h : P.info? t = some i) (w : World) : (sizeOf t).run P w = .ok i.size w := by simp [sizeOf, run_info h]
theorem run_zero {t : TypeId} {i : TypeInfo} {z : Value} (h : P.info? t = some i) (hz : i.zero = some z) (w : World) : (zeroValue t).run P w = .ok z w := by simp [zeroValue, run_info h, hz]

theorem sizeK_iff {R : Nat → Prop} {t : TypeId} : sizeK P R t ↔ ∃ i, P.info? t = some i ∧ R i.size := infoK_iff

def isA : TypeDesc → Bool
  | .struct _ | .array _ _ => true
  | _ => false

theorem aggK_iff {R : Bool → Prop} {t : TypeId} : aggK P R t ↔ ∃ d, P.underlying t = some d ∧ R (isA d) := by
  unfold aggK; rw [descK_iff]
  constructor
  · rintro ⟨d, h, hr⟩; refine ⟨d, h, ?_⟩; cases d <;> exact hr
  · rintro ⟨d, h, hr⟩; refine ⟨d, h, ?_⟩; cases d <;> exact hr

theorem run_isAgg {t : TypeId} {d : TypeDesc} (h : P.underlying t = some d) (w : World) : (isAgg t).run P w = .ok (isA d) w := by
  unfold isAgg; simp only [Sem.run_bind, run_und h, Result.andThen_ok]
  cases d <;> rfl

theorem cellsK_sound {κ : Ctx} {R : List AV → Prop} {l : List Value} (h : cellsK R l) : ∃ cs, R cs ∧ cs.length = l.length ∧ (∀ v, v ∈ l → one v) ∧ ∀ i (h : i < cs.length) (h' : i < l.length), VRel κ cs[i] l[i] := by
  induction l generalizing R with
  | nil => exact ⟨[], h, rfl, fun v h => by simp at h, fun i h _ => by simp at h⟩
  | cons v r ih =>
    simp only [cellsK] at h
    split at h
    case h_2 => exact h.elim
    rename_i h1
    obtain ⟨cs, hR, hl, ho, hr⟩ := ih h
    refine ⟨_, hR, by simp [hl], fun x hx => ?_, fun i h1 h2 => ?_⟩
    · simp at hx
      rcases hx with rfl | hx
      · exact h1
      · exact ho x hx
    cases i with
    | zero => simpa using ofCell_rel κ v
    | succ i => simpa using hr i (by simpa using h1) (by simpa using h2)

theorem zeroK_sound {κ : Ctx} {R : List AV → Prop} {t : TypeId} (h : zeroK P R t) : ∃ i z cs, P.info? t = some i ∧ i.zero = some z ∧ R cs ∧ cs.length = z.cells.size ∧ (∀ v, v ∈ z.cells → one v) ∧ ∀ i (h : i < cs.length) (h' : i < z.cells.size), VRel κ cs[i] z.cells[i] := by
  unfold zeroK at h
  obtain ⟨i, hi, h⟩ := infoK_iff.1 h
  cases hz : i.zero with
  | none => simp [hz] at h
  | some z =>
    simp only [hz] at h
    obtain ⟨cs, h1, h2, ho, h3⟩ := cellsK_sound (κ := κ) h
    exact ⟨i, z, cs, hi, hz, h1, by simpa using h2, fun v hv => ho v (by simpa using hv), fun i a b => by have := h3 i a (by simpa using b); rwa [Array.getElem_toList] at this⟩

/-- what lies at a place -/
theorem atK_sound {κ : Ctx} {M : Mem O} {w : World} {S : Nat → Prop} (hR : Rep unf κ M w S) {R : List AV → Prop} {p : AV} {v : Value} (h : atK M R p) (hv : VRel κ p v) :
    ∃ g o A t fz cs, v = .pointer (some ⟨g, o, none⟩) ∧ R cs ∧ w.heap[g]? = some (.cells A t fz) ∧ (∀ i v, i < cs.length → A[o + i]? = some v → one v) ∧ ∀ i (h : i < cs.length), ∃ v, A[o + i]? = some v ∧ VRel κ cs[i] v := by
  cases hv with
  | ptr hL =>
    rename_i id off L
    obtain ⟨ob, hM, h⟩ := getK_iff.1 h
    cases ob with
    | dead => exact h.elim
    | obj o => exact h.elim
    | cells ek cs =>
      obtain ⟨hle, h⟩ := dropK_iff.1 h
      obtain ⟨L', A, t, fz, hL', _, _, hA, hp, hc, _⟩ := hR.cells hM
      rw [hL] at hL'; cases hL'
      refine ⟨_, _, A, t, fz, _, rfl, h, hA, fun i v _ hv => hp.1 v (Array.mem_of_getElem? hv), fun i hi => ?_⟩
      simp at hi
      obtain ⟨v, h1, h2⟩ := hc (off + i) (by omega)
      exact ⟨v, by rw [Nat.add_assoc]; exact h1, by simpa using h2⟩
  | pv f hb h1 h2 =>
    rename_i cs b off A
    obtain ⟨_, t, fz, hA, ho⟩ := hR.imm _ _ hb
    exact ⟨b, off, A, t, fz, cs, rfl, h, hA, fun i v hi hv => by have := h1 i hi; rw [this.1] at hv; cases hv; exact this.2, fun i hi => ⟨f i, (h1 i hi).1, h2 i hi⟩⟩
  | _ => exact h.elim

theorem addr_add (g o n : Nat) : (⟨g, o, none⟩ : Addr).add n = ⟨g, o + n, none⟩ := by
  unfold Addr.add; split
  · rename_i h; subst h; rfl
  · rfl

theorem run_load_at {w : World} {g o : Nat} {A : Array Value} {t : TypeId} {fz : Nat × Nat} {v : Value} (h : w.heap[g]? = some (.cells A t fz)) (hv : A[o]? = some v) : (load ⟨g, o, none⟩).run P w = .ok v w := by
  rw [run_load, cell_of h, hv]

end Go.Am
end
section
namespace Go.Am
open Go

variable {O : Type} (unf : O → List (AO O)) (P : Program)

/-- the model's operation yields this, and that world -/
def Runs (a : Act) (o : Op) (w : World) (cv : Value) (w' : World) : Prop :=
  ∀ o' : Oper, o'.op = o → (execOp a.eval o').run P w = .ok (.value cv) w' ∨ ((execOp a.eval o').run P w = .ok .skip w' ∧ cv = undef)

/-- what was asked holds, of a value and a memory that stand for what has come -/
def Done (κ : Ctx) (S : Nat → Prop) (w : World) (n : Nat) (K : AV → Mem O → Prop) (cv : Value) (w' : World) : Prop :=
  ∃ κ' S' v M', K v M' ∧ Rep unf κ' M' w' S' ∧ VRel κ' v cv ∧ κ.Le κ' ∧ Post n κ S w κ' S' w' ∧ n ≤ M'.length

variable {unf} {P}

theorem Done.pure {κ : Ctx} {S : Nat → Prop} {w : World} {M : Mem O} {K : AV → Mem O → Prop} {cv : Value} {v : AV} (h : K v M) (hR : Rep unf κ M w S) (hv : VRel κ v cv) : Done unf κ S w M.length K cv w :=
  ⟨κ, S, v, M, h, hR, hv, .refl κ, .refl _ _ _ _, Nat.le_refl _⟩

theorem payK_iff {b : Bool} {A : Prop} : payK b A ↔ b = true ∧ A := by cases b <;> simp [payK, testK]

theorem Runs.mk {a : Act} {o : Op} {w w' : World} {cv : Value} (h : ∀ o' : Oper, o'.op = o → (execOp a.eval o').run P w = .ok (.value cv) w') : Runs P a o w cv w' := fun o' ho => .inl (h o' ho)

theorem VRel.cells {κ : Ctx} {v : AV} {cv : Value} (h : VRel κ v cv) (hs : v.storable = true) :
    v.cs.length = cv.cells.size ∧ (∀ c, c ∈ cv.cells → one c) ∧ ∀ i (h : i < v.cs.length) (h' : i < cv.cells.size), VRel κ v.cs[i] cv.cells[i] := by
  cases h with
  | agg h1 h2 h3 => exact ⟨h1, h2, h3⟩
  | tup h1 h2 => simp [AV.storable] at hs
  | und v => simp [AV.storable] at hs
  | _ =>
    refine ⟨by simp [AV.cs, Value.cells], fun c hc => ?_, fun i h h' => ?_⟩
    · simp [Value.cells] at hc; subst hc; rfl
    simp [AV.cs, Value.cells] at h h' ⊢
    first
      | (constructor; done)
      | (constructor <;> assumption)

theorem load_sound {κ : Ctx} {M : Mem O} {w : World} {S : Nat → Prop} (hR : Rep unf κ M w S) {a : Act} {t : TypeId} {x : Operand} {p : AV} {K : AV → Mem O → Prop} (h : loadA P t p M K) (hv : VRel κ p (a.eval x)) :
    ∃ cv, Done unf κ S w M.length K cv w ∧ Runs P a (.load t x) w cv w ∧ (loadVar t ((match a.eval x with | .pointer (some q) => q | _ => default))).run P w = .ok cv w := by
  obtain ⟨d, hd, h⟩ := aggK_iff.1 h
  cases hg : isA d with
  | true =>
    rw [hg] at h
    obtain ⟨i, hi, h⟩ := sizeK_iff.1 h
    obtain ⟨g, o, A, t', fz, cs, hp, h, hA, ho, hc⟩ := atK_sound hR h hv
    obtain ⟨hn, hK⟩ := takeK_iff.1 h
    obtain ⟨f, hf⟩ := exists_fun hc
    have hrun : (loadVar t ⟨g, o, none⟩).run P w = .ok (.agg ((List.range i.size).map f).toArray) w := by
      unfold loadVar
      simp only [Sem.run_bind, run_isAgg hd, hg, Result.andThen_ok, if_true, run_size hi]
      rw [run_loadCells' P hA f (fun j hj => (hf j (by omega)).1)]
      rfl
    refine ⟨.agg ((List.range i.size).map f).toArray, Done.pure hK hR (.agg (by simp; omega) (fun v hm => ?_) (fun j h1 h2 => ?_)), Runs.mk fun o' ho' => ?_, ?_⟩
    · simp at hm
      obtain ⟨j, hj, rfl⟩ := hm
      exact ho j _ (by omega) (hf j (by omega)).1
    · simp at h1 h2
      simpa using (hf j (by omega)).2
    · simp [execOp, ho', hp, Instr.loadAt, Instr.sureAddr, hrun]
    · rw [hp]; exact hrun
  | false =>
    rw [hg] at h
    obtain ⟨g, o, A, t', fz, cs, hp, h, hA, ho, hc⟩ := atK_sound hR h hv
    cases cs with
    | nil => exact h.elim
    | cons c r =>
      obtain ⟨v, hv1, hv2⟩ := hc 0 (by simp)
      have hrun : (loadVar t ⟨g, o, none⟩).run P w = .ok v w := by
        unfold loadVar
        simp only [Sem.run_bind, run_isAgg hd, hg, Result.andThen_ok]
        exact run_load_at hA hv1
      refine ⟨v, Done.pure h hR (by simpa using hv2), Runs.mk fun o' ho' => ?_, ?_⟩
      · simp [execOp, ho', hp, Instr.loadAt, Instr.sureAddr, hrun]
      · rw [hp]; exact hrun

theorem VRel.ptr_inv {κ : Ctx} {id off : Nat} {cv : Value} (h : VRel κ (.ptr id off) cv) : ∃ L, κ.at_ id = some L ∧ cv = .pointer (some ⟨L.blk, L.base + off, none⟩) := by
  cases h with
  | ptr h => exact ⟨_, h, rfl⟩

/-- cells are laid into an object's block -/
theorem Rep.lay {κ : Ctx} {M : Mem O} {w : World} {S : Nat → Prop} (hR : Rep unf κ M w S) {id off : Nat} {ek : Option Nat} {cs : List AV} (hM : M[id]? = some (.cells ek cs)) {L : Loc} (hL : κ.at_ id = some L)
    {new : List AV} {vals : List Value} (hle : off + new.length ≤ cs.length) (hlen : new.length = vals.length) (hone : ∀ v, v ∈ vals → one v) (hrel : ∀ i (h : i < new.length) (h' : i < vals.length), VRel κ new[i] vals[i]) :
    ∃ w', (storeCells ⟨L.blk, L.base + off, none⟩ vals).run P w = .ok () w' ∧ Rep unf κ (M.set id (.cells ek (cs.take off ++ (new ++ cs.drop (off + new.length))))) w' S ∧ Post M.length κ S w κ S w' := by
  obtain ⟨L', A, t, fz, hL', hek, hSL, hA, hp, hc, hroom⟩ := hR.cells hM
  rw [hL] at hL'; cases hL'
  by_cases h0 : vals.length = 0
  · obtain rfl : vals = [] := List.length_eq_zero_iff.1 h0
    obtain rfl : new = [] := List.length_eq_zero_iff.1 (by simpa using hlen)
    obtain ⟨hid, hM'⟩ := List.getElem?_eq_some_iff.1 hM
    refine ⟨w, rfl, ?_, .refl _ _ _ _⟩
    have : M.set id (.cells ek (cs.take off ++ ([] ++ cs.drop (off + 0)))) = M := by
      simp [← hM']
    rw [List.length_nil, this]
    exact hR
  have hsz : L.base + off + vals.length ≤ A.size := by
    obtain ⟨v, hv, _⟩ := hc (off + new.length - 1) (by omega)
    have := (Array.getElem?_eq_some_iff.1 hv).1
    omega
  refine ⟨_, run_storeCells P vals 0 A w hA hp (by simpa using hsz) hone, ?_⟩
  refine hR.set hM hL hA (spl_plain hp hone) (spl_size _ _ _) _ (fun i hi => ?_)
  simp at hi
  by_cases h1 : i < off
  · obtain ⟨v, hv, hr⟩ := hc i (by omega)
    refine ⟨v, by rw [spl_out (by omega)]; exact hv, ?_⟩
    rw [List.getElem_append_left (by simp; omega)]
    simpa using hr
  · by_cases h2 : i < off + new.length
    · refine ⟨vals[i - off]'(by omega), ?_, ?_⟩
      · have := spl_in (A := A) (k := L.base + off + 0) (vs := vals) (by simpa using hsz) (j := i - off) (by omega)
        rw [show L.base + i = L.base + off + 0 + (i - off) from by omega, this, List.getElem?_eq_getElem]
      · have := hrel (i - off) (by omega) (by omega)
        rw [List.getElem_append_right (by simp; omega), List.getElem_append_left (by simp; omega)]
        simpa [Nat.min_eq_left (show off ≤ cs.length by omega)] using this
    · obtain ⟨v, hv, hr⟩ := hc i (by omega)
      refine ⟨v, by rw [spl_out (by omega)]; exact hv, ?_⟩
      rw [List.getElem_append_right (by simp; omega), List.getElem_append_right (by simp; omega)]
      simp only [List.length_take, List.getElem_drop]
      have : off + new.length + (i - min off cs.length - new.length) = i := by omega
      simpa [this] using hr

end Go.Am
end
section
namespace Go.Am
open Go

variable {O : Type} {unf : O → List (AO O)} {P : Program}

theorem store_sound {κ : Ctx} {M : Mem O} {w : World} {S : Nat → Prop} (hR : Rep unf κ M w S) {a : Act} {t : TypeId} {x y : Operand} {p v : AV} {K : AV → Mem O → Prop} (h : storeA P t p v M K) (hp : VRel κ p (a.eval x)) (hv : VRel κ v (a.eval y)) :
    ∃ cv w', Done unf κ S w M.length K cv w' ∧ Runs P a (.store t x y) w cv w' := by
  cases p with
  | ptr id off =>
    simp only [storeA] at h
    obtain ⟨i, hi, h⟩ := sizeK_iff.1 h
    obtain ⟨hs, h⟩ := payK_iff.1 h
    simp at hs
    obtain ⟨ob, hM, h⟩ := getK_iff.1 h
    cases ob with
    | dead => exact h.elim
    | obj o => exact h.elim
    | cells ek cs =>
      obtain ⟨hle, h⟩ := putK_iff.1 h
      obtain ⟨_, h⟩ := setK_iff.1 h
      obtain ⟨L, hL, hpe⟩ := hp.ptr_inv
      obtain ⟨h1, h2, h3⟩ := hv.cells hs.1
      have h1' : v.cs.length = (a.eval y).cells.toList.length := by simpa using h1
      obtain ⟨w', hw, hR', hP⟩ := hR.lay (P := P) hM hL hle h1' (fun c hc => h2 c (by simpa using hc)) (fun i a b => by simpa using h3 i a (by simpa using b))
      refine ⟨undef, w', ⟨κ, S, .und, _, h, hR', .und _, .refl κ, hP, by simp⟩, fun o' ho' => .inr ⟨?_, rfl⟩⟩
      have hsz : (a.eval y).cells.size = i.size := by omega
      simp [execOp, ho', hpe, Instr.storeAt, Instr.sureAddr, storeVar, run_size hi, hsz, hw]
  | _ => exact h.elim

theorem run_newRow (t : TypeId) (A : Array Value) (w : World) : (newRow t A).run P w = .ok ⟨w.heap.size, 0, none⟩ { w with heap := w.heap.push (.cells A t) } := by
  simp [newRow]

/-- a new object of these cells -/
theorem new_sound {κ : Ctx} {M : Mem O} {w : World} {S : Nat → Prop} (hR : Rep unf κ M w S) (t : TypeId) {A : Array Value} {cs : List AV} {ek : Option Nat} (ho : ∀ v, v ∈ A → one v) (hl : cs.length = A.size) (hc : ∀ i (h : i < cs.length) (h' : i < A.size), VRel κ cs[i] A[i]) :
    ∃ κ' S', Rep unf κ' (M ++ [.cells ek cs]) { w with heap := w.heap.push (.cells A t) } S' ∧ κ.Le κ' ∧ Post M.length κ S w κ' S' { w with heap := w.heap.push (.cells A t) } ∧ κ'.at_ M.length = some ⟨w.heap.size, 0, ek, A.size⟩ :=
  hR.alloc (w' := { w with heap := w.heap.push (.cells A t) }) (fz := (0, 0)) rfl ⟨rfl, rfl, rfl⟩ ⟨ho, fun i _ h => by simp at h⟩ ek cs fun i hi => ⟨A[i]'(hl ▸ hi), by rw [Array.getElem?_eq_getElem], hc i hi _⟩

theorem appK_one {R : List (AO O) → Prop} {M : Mem O} {o : AO O} (h : appK R [o] M) : R (M ++ [o]) := appK_iff.1 h

theorem alloc_sound {κ : Ctx} {M : Mem O} {w : World} {S : Nat → Prop} (hR : Rep unf κ M w S) {a : Act} {t : TypeId} {K : AV → Mem O → Prop} (h : zeroK P (fun z => allocA z M K) t) :
    ∃ cv w', Done unf κ S w M.length K cv w' ∧ Runs P a (.alloc t) w cv w' := by
  obtain ⟨i, z, cs, hi, hz, h, hl, ho, hc⟩ := zeroK_sound (κ := κ) h
  have h := appK_one h
  obtain ⟨κ', S', hR', hle, hP, hat⟩ := new_sound (ek := none) hR t ho hl hc
  refine ⟨_, _, ⟨κ', S', _, _, h, hR', .ptr hat, hle, hP, by simp⟩, Runs.mk fun o' ho' => ?_⟩
  simp [execOp, ho', Instr.alloc, run_zero hi hz, newVar, run_newRow]

theorem box_sound {κ : Ctx} {M : Mem O} {w : World} {S : Nat → Prop} (hR : Rep unf κ M w S) {a : Act} {t : TypeId} {x : Operand} {v : AV} {K : AV → Mem O → Prop} (h : payK v.storable (allocA v.cs M K)) (hv : VRel κ v (a.eval x)) :
    ∃ cv w', Done unf κ S w M.length K cv w' ∧ Runs P a (.box t x) w cv w' := by
  obtain ⟨hs, h⟩ := payK_iff.1 h
  have h := appK_one h
  obtain ⟨h1, h2, h3⟩ := hv.cells hs
  obtain ⟨κ', S', hR', hle, hP, hat⟩ := new_sound (ek := none) hR t h2 h1 h3
  refine ⟨_, _, ⟨κ', S', _, _, h, hR', .ptr hat, hle, hP, by simp⟩, Runs.mk fun o' ho' => ?_⟩
  simp [execOp, ho', Instr.box, newVar, run_newRow]

/-- cells laid over cells, one by one -/
theorem foldl_set (vs : List Value) (off : Nat) : ∀ (k : Nat) (A : Array Value), (vs.zipIdx k).foldl (fun cs (x : Value × Nat) => cs.setIfInBounds (off + x.2) x.1) A = spl A (off + k) vs := by
  induction vs with
  | nil => intro k A; rfl
  | cons v r ih =>
    intro k A
    simp only [List.zipIdx_cons, List.foldl_cons]
    rw [ih]
    rfl

theorem fill_sound {κ : Ctx} {place : Nat → Option (Nat × Nat)} {R : List AV → Prop} {ps : List (Nat × AV)} {qs : List (Nat × Value)} (hr : PRel κ ps qs) : ∀ {cs : List AV} {A : Array Value}, fillK place R ps cs → cs.length = A.size → (∀ v, v ∈ A → one v) →
    (∀ i (h : i < cs.length) (h' : i < A.size), VRel κ cs[i] A[i]) → ∃ cs' A', R cs' ∧ Instr.fill place A qs = some A' ∧ A'.size = A.size ∧ cs'.length = A'.size ∧ (∀ v, v ∈ A' → one v) ∧ ∀ i (h : i < cs'.length) (h' : i < A'.size), VRel κ cs'[i] A'[i] := by
  induction hr with
  | nil => intro cs A h hl ho hc; exact ⟨cs, A, h, rfl, rfl, hl, ho, hc⟩
  | @cons i a v l m hv _ ih =>
    intro cs A h hl ho hc
    simp only [fillK] at h
    cases hpl : place i with
    | none => simp [hpl] at h
    | some x =>
      obtain ⟨off, n⟩ := x
      simp only [hpl] at h
      obtain ⟨hs, h⟩ := payK_iff.1 h
      simp at hs
      obtain ⟨hle, h⟩ := putK_iff.1 h
      obtain ⟨h1, h2, h3⟩ := hv.cells hs.1
      have hle' : off + v.cells.toList.length ≤ A.size := by simp; omega
      obtain ⟨cs', A', h4, h5, h6, h7, h8, h9⟩ := ih (A := spl A off v.cells.toList) h (by simp [spl_size]; omega) (spl_one ho fun c hc => h2 c (by simpa using hc)) (by
        intro j hj hj'
        simp at hj
        rw [spl_size] at hj'
        by_cases hj1 : j < off
        · have e := spl_out (A := A) (k := off) (vs := v.cells.toList) (j := j) (.inl hj1)
          rw [Array.getElem?_eq_getElem (by rwa [spl_size]), Array.getElem?_eq_getElem hj'] at e
          simp only [Option.some.injEq] at e
          rw [e, List.getElem_append_left (by simp; omega)]
          simpa using hc j (by omega) hj'
        · by_cases hj2 : j < off + a.cs.length
          · have e := spl_in (A := A) (k := off) (vs := v.cells.toList) hle' (j := j - off) (by simp; omega)
            rw [show off + (j - off) = j from by omega, Array.getElem?_eq_getElem (by rwa [spl_size]), List.getElem?_eq_getElem (by simp; omega)] at e
            simp only [Option.some.injEq] at e
            rw [e, List.getElem_append_right (by simp; omega), List.getElem_append_left (by simp; omega)]
            have := h3 (j - off) (by omega) (by omega)
            simpa [Nat.min_eq_left (show off ≤ cs.length by omega)] using this
          · have e := spl_out (A := A) (k := off) (vs := v.cells.toList) (j := j) (.inr (by simp; omega))
            rw [Array.getElem?_eq_getElem (by rwa [spl_size]), Array.getElem?_eq_getElem hj'] at e
            simp only [Option.some.injEq] at e
            rw [e, List.getElem_append_right (by simp; omega), List.getElem_append_right (by simp; omega)]
            have e2 : off + a.cs.length + (j - min off cs.length - a.cs.length) = j := by omega
            simp only [List.length_take, List.getElem_drop, e2]
            exact hc j (by omega) hj')
      refine ⟨cs', A', h4, ?_, by rw [h6, spl_size], h7, h8, h9⟩
      rw [Instr.fill]
      simp only [hpl]
      rw [if_neg]
      · have := foldl_set v.cells.toList off 0 A
        rw [← h5]
        congr 1
        rw [← Array.foldl_toList]
        simpa using this
      · simp only [Bool.or_eq_true, decide_eq_true_eq, not_or]
        simp at hle'
        omega

end Go.Am
end
section
namespace Go.Am
open Go

variable {O : Type} {unf : O → List (AO O)} {P : Program}

theorem run_mapM_list {α β : Type} (f : α → Sem β) (g : α → β) (w : World) : ∀ (l : List α), (∀ x, x ∈ l → (f x).run P w = .ok (g x) w) → (l.mapM f).run P w = .ok (l.map g) w
  | [], _ => by simp
  | x :: r, h => by
    rw [List.mapM_cons]
    simp only [Sem.run_bind, h x (by simp), Result.andThen_ok, run_mapM_list f g w r (fun y hy => h y (by simp [hy])), Sem.run_pure, List.map_cons]

theorem run_mapM {α β : Type} (f : α → Sem β) (g : α → β) (w : World) (xs : Array α) (h : ∀ x, x ∈ xs.toList → (f x).run P w = .ok (g x) w) : (xs.mapM f).run P w = .ok (xs.toList.map g).toArray w := by
  rw [Array.mapM_eq_mapM_toList]
  simp [run_mapM_list f g w xs.toList h]

theorem build_sound {κ : Ctx} {M : Mem O} {w : World} {S : Nat → Prop} (hR : Rep unf κ M w S) {a : Act} {t : TypeId} {ps : Array (Nat × Operand)} {vs : List (Nat × AV)} {K : AV → Mem O → Prop} (h : buildA P t vs M K) (hv : PRel κ vs (ps.toList.map fun x => (x.1, a.eval x.2))) :
    ∃ cv, Done unf κ S w M.length K cv w ∧ Runs P a (.build t ps) w cv w := by
  obtain ⟨i, z, cs, hi, hz, h, hl, ho, hc⟩ := zeroK_sound (κ := κ) h
  obtain ⟨d, hd, h⟩ := descK_iff.1 h
  cases d with
  | struct fs =>
    dsimp only at h
    obtain ⟨hall, h⟩ := payK_iff.1 h
    obtain ⟨cs', A', h1, h2, h3, h4, h5, h6⟩ := fill_sound hv h hl ho hc
    refine ⟨.agg A', Done.pure h1 hR (.agg h4 h5 h6), Runs.mk fun o' ho' => ?_⟩
    have hpl : (fs.mapM fun f => do pure (f.offset, ← sizeOf f.type) : Sem (Array (Nat × Nat))).run P w = .ok (fs.toList.map fun f => (f.offset, ((P.info? f.type).map (·.size)).getD 0)).toArray w := by
      refine run_mapM _ _ w fs fun f hf => ?_
      simp only [List.all_eq_true] at hall
      obtain ⟨j, hj⟩ := Option.isSome_iff_exists.1 (hall f hf)
      simp [run_size hj, hj]
    have hpl2 : (fun k => (fs.toList.map fun f => (f.offset, ((P.info? f.type).map (·.size)).getD 0)).toArray[k]?) = fieldsAt P fs := by
      funext k
      unfold fieldsAt
      cases hk : fs[k]? with
      | none =>
        have := Array.getElem?_eq_none_iff.1 hk
        simp [this]
      | some f =>
        obtain ⟨hlt, rfl⟩ := Array.getElem?_eq_some_iff.1 hk
        simp only [List.all_eq_true] at hall
        obtain ⟨j, hj⟩ := Option.isSome_iff_exists.1 (hall fs[k] (by simp))
        simp [hlt, hj]
    simp only [execOp, ho', Instr.build, Sem.run_bind, run_zero hi hz, Result.andThen_ok, run_und hd]
    rw [hpl]
    simp only [Result.andThen_ok, Array.toList_map]
    rw [hpl2, h2]
    rfl
  | array n el =>
    dsimp only at h
    obtain ⟨j, hj, h⟩ := sizeK_iff.1 h
    obtain ⟨cs', A', h1, h2, h3, h4, h5, h6⟩ := fill_sound hv h hl ho hc
    refine ⟨.agg A', Done.pure h1 hR (.agg h4 h5 h6), Runs.mk fun o' ho' => ?_⟩
    simp only [execOp, ho', Instr.build, Sem.run_bind, run_zero hi hz, Result.andThen_ok, run_und hd, run_size hj, Array.toList_map]
    rw [h2]
    rfl
  | _ => exact h.elim

theorem repsK_iff {z : List AV} {R : List AV → Prop} : ∀ {n : Nat}, repsK z R n ↔ R ((List.replicate n z).flatten)
  | 0 => by simp [repsK]
  | n + 1 => by
    simp only [repsK]
    rw [repsK_iff, appK_iff]
    simp [List.replicate_succ]

theorem getElem_reps {α : Type} {z : List α} : ∀ {n i : Nat} (h : i < ((List.replicate n z).flatten).length), ∃ h', ((List.replicate n z).flatten)[i] = z[i % z.length]'h'
  | 0, i, h => by simp at h
  | n + 1, i, h => by
    simp only [List.replicate_succ, List.flatten_cons] at h ⊢
    by_cases hi : i < z.length
    · exact ⟨by rwa [Nat.mod_eq_of_lt hi], by rw [List.getElem_append_left hi]; simp only [Nat.mod_eq_of_lt hi]⟩
    · have hz : z.length ≤ i := by omega
      simp only [List.length_append] at h
      obtain ⟨h', e⟩ := getElem_reps (z := z) (n := n) (i := i - z.length) (by omega)
      have hm : (i - z.length) % z.length = i % z.length := (Nat.mod_eq_sub_mod hz).symm
      refine ⟨by rw [← hm]; exact h', ?_⟩
      rw [List.getElem_append_right hz, e]
      simp only [hm]

/-- a zero row -/
theorem zeros_rel {κ : Ctx} {zs : List AV} {Z : Array Value} (hl : zs.length = Z.size) (hc : ∀ i (h : i < zs.length) (h' : i < Z.size), VRel κ zs[i] Z[i]) (ho : ∀ v, v ∈ Z → one v) (n : Nat) {sz : Nat} (hsz : sz = n * Z.size) :
    let A := (Array.range sz).map (Z[· % Z.size]!)
    ((List.replicate n zs).flatten).length = A.size ∧ (∀ v, v ∈ A → one v) ∧ ∀ i (h : i < ((List.replicate n zs).flatten).length) (h' : i < A.size), VRel κ ((List.replicate n zs).flatten)[i] A[i] := by
  have hlen : ((List.replicate n zs).flatten).length = sz := by simp [hsz, hl]
  refine ⟨by simp [hlen], fun v hv => ?_, fun i h h' => ?_⟩
  · simp only [Array.mem_map, Array.mem_range] at hv
    obtain ⟨i, hi, rfl⟩ := hv
    have hZ : 0 < Z.size := by
      rcases Nat.eq_zero_or_pos Z.size with h0 | h0
      · rw [h0] at hsz; simp at hsz; omega
      · exact h0
    have : i % Z.size < Z.size := Nat.mod_lt _ hZ
    rw [getElem!_pos Z (i % Z.size) this]
    exact ho _ (Array.getElem_mem this)
  · obtain ⟨h1, e⟩ := getElem_reps h
    rw [e]
    have h2 : i % Z.size < Z.size := by rw [← hl]; exact h1
    simp only [Array.getElem_map, Array.getElem_range]
    rw [getElem!_pos Z (i % Z.size) h2]
    have := hc (i % zs.length) h1 (by rw [hl]; exact h2)
    simp only [hl] at this ⊢
    exact this

theorem row_sound {κ : Ctx} {w : World} {a : Act} {t : TypeId} {len : Nat} {ps : Array (Nat × Operand)} {vs : List (Nat × AV)} {R : Nat → List AV → Prop} (h : rowK P t len vs R) (hv : PRel κ vs (ps.toList.map fun x => (x.1, a.eval x.2))) :
    ∃ el n cs A, R n cs ∧ P.underlying t = some (.slice el) ∧ (Instr.buildSlice t len (ps.map fun (i, x) => (i, a.eval x))).run P w = .ok (.slice (some ⟨w.heap.size, 0, none⟩) len len) { w with heap := w.heap.push (.cells A el) } ∧
      cs.length = A.size ∧ (∀ v, v ∈ A → one v) ∧ ∀ i (h : i < cs.length) (h' : i < A.size), VRel κ cs[i] A[i] := by
  obtain ⟨d, hd, h⟩ := descK_iff.1 h
  cases d with
  | slice el =>
    dsimp only at h
    obtain ⟨i, hi, h⟩ := sizeK_iff.1 h
    obtain ⟨hb, h⟩ := payK_iff.1 h
    obtain ⟨i', z, zs, hi', hz, h, hl, ho, hc⟩ := zeroK_sound (κ := κ) h
    rw [hi] at hi'; cases hi'
    obtain ⟨hzn, h⟩ := payK_iff.1 h
    simp at hzn hb
    have h := repsK_iff.1 h
    obtain ⟨g1, g2, g3⟩ := zeros_rel hl hc ho len (sz := len * i.size) (by rw [← hl, hzn])
    obtain ⟨cs', A', h1, h2, h3, h4, h5, h6⟩ := fill_sound hv h g1 g2 g3
    refine ⟨el, i.size, cs', A', h1, hd, ?_, h4, h5, h6⟩
    have hpow : ¬ (len * i.size > 2 ^ 24) := by
      have : (2 : Nat) ^ 24 = 16777216 := by decide
      omega
    simp only [Instr.buildSlice, Sem.run_bind, run_und hd, run_size hi, Result.andThen_ok]
    rw [if_neg hpow]
    by_cases h0 : len * i.size = 0
    · rw [if_pos h0]
      simp only [Sem.run_bind, Sem.run_pure, Result.andThen_ok, Array.toList_map]
      have e : (Array.range (len * i.size)).map ((#[] : Array Value)[· % (#[] : Array Value).size]!) = (Array.range (len * i.size)).map (z.cells[· % z.cells.size]!) := by simp [h0]
      rw [e, h2]
      simp only [Sem.run_bind, run_newRow, Result.andThen_ok, Sem.run_pure]
    · rw [if_neg h0]
      simp only [Sem.run_bind, Sem.run_pure, Result.andThen_ok, Array.toList_map, run_zero hi hz]
      rw [h2]
      simp only [Sem.run_bind, run_newRow, Result.andThen_ok, Sem.run_pure]
  | _ => exact h.elim

end Go.Am
end
