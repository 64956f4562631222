/- The executor and what it leans on (CheckP): told in wip/x. -/
import Derived.Test.YtlibeobmdjeilaaGreatDoorTreeD
set_option linter.all false
namespace Go.Proofs.YtlibeobmdjeilaaGreatDoor
open Go
def wideW (n : Int) : Bool := decide (1 ≤ n ∧ n ≤ 16)
def differW (a b : Int) : Bool := wideW a && wideW b && decide (a ≠ b)
def mostW (n : Int) : Int := if wideW n then 2 ^ n.toNat - 1 else 0
def mostE (n : Int) : Int := if wideW n then 0 else 220
def opOk (op : Int) : Bool := decide (1 ≤ op ∧ op ≤ 16)
def opTwo (op : Int) : Bool := decide (3 ≤ op ∧ op ≤ 16)
def opTruth (op : Int) : Bool := decide (13 ≤ op ∧ op ≤ 16)
/-- The width of an operation's result; 0 if there is none. -/
def opWidth (op w : Int) : Int := if opOk op = true then (if wideW w = true then (if opTruth op = true then 1 else w) else 0) else 0
/-- What is declared with a name: 1 an input, 2 a ghost, 3 a variable, 4 an array, 5 a parameter; 0 nothing. -/
structure Thing where
  kind : Int
  width : Int
deriving DecidableEq
def look {α : Type} (T : List (ByteArray × α)) (s : ByteArray) : Option α := (T.find? fun x => decide (x.1 = s)).map (·.2)
def thingsP (p : ProgV) : List (ByteArray × Thing) :=
  p.inputs.map (fun d => (d.name, ⟨1, d.width⟩)) ++ p.ghosts.map (fun d => (d.name, ⟨2, d.width⟩)) ++ p.vars.map (fun d => (d.name, ⟨3, d.width⟩)) ++ p.arrays.map (fun d => (d.name, ⟨4, d.width⟩))
def paramsP (q : ProcV) : List (ByteArray × Thing) := q.params.map (fun d => (d.name, ⟨5, d.width⟩))
def numbered {α : Type} (f : α → ByteArray) : List α → Nat → List (ByteArray × Int)
  | [], _ => []
  | x :: l, n => (f x, (n : Int)) :: numbered f l (n + 1)
def procsAt (p : ProgV) : List (ByteArray × Int) := numbered ProcV.name p.procs 0
/-- Where one is: in which procedure's body (less than 0: in none), and what its parameters are. -/
structure Env where
  within : Int
  params : List (ByteArray × Thing)
def outside : Env := ⟨-1, []⟩
def inside (p : ProgV) (i : Nat) : Env := ⟨i, match p.procs[i]? with | some q => paramsP q | none => []⟩
def findW (p : ProgV) (E : Env) (s : ByteArray) : Thing :=
  match look E.params s with
  | some x => x
  | none => (look (thingsP p) s).getD ⟨0, 0⟩
/-- The width that a kind of expression has, by those of the first two within it. -/
def rawWidth (p : ProgV) (E : Env) (k op wd : Int) (nm : ByteArray) (s0 s1 : Int) : Int :=
  if k = 1 ∨ k = 8 then wd
  else if k = 2 ∨ k = 3 then (if (findW p E nm).kind ≠ 0 ∧ ((findW p E nm).kind = 4 ↔ k = 3) then (findW p E nm).width else 0)
  else if k = 4 then p.width
  else if k = 5 ∨ k = 6 then opWidth op s0
  else if k = 7 then s1
  else 0
def cutW (n : Int) : Int := if wideW n = true then n else 0
mutual
def widthE (p : ProgV) (E : Env) : ExprV → Int
  | .mk k op _ wd nm _ subs => cutW (rawWidth p E k op wd nm ((widthL p E subs).getD 0 0) ((widthL p E subs).getD 1 0))
def widthL (p : ProgV) (E : Env) : List ExprV → List Int
  | [] => []
  | e :: l => widthE p E e :: widthL p E l
end
theorem widthL_eq (p : ProgV) (E : Env) : ∀ l : List ExprV, widthL p E l = l.map (widthE p E)
  | [] => by rw [widthL]; rfl
  | e :: l => by rw [widthL, widthL_eq p E l]; rfl
def subW (p : ProgV) (E : Env) (l : List ExprV) (i : Nat) : Int := match l[i]? with | some e => widthE p E e | none => 0
theorem widthL_at (p : ProgV) (E : Env) (l : List ExprV) (i : Nat) : (widthL p E l).getD i 0 = subW p E l i := by
  rw [widthL_eq, subW, List.getD_eq_getElem?_getD, List.getElem?_map]
  cases l[i]? <;> rfl
theorem widthE_eq (p : ProgV) (E : Env) (e : ExprV) : widthE p E e = cutW (rawWidth p E e.kind e.op e.width e.name (subW p E e.subs 0) (subW p E e.subs 1)) := by
  cases e
  rw [widthE, widthL_at, widthL_at]
  rfl
/-- Whether an expression uses what its kind does, and nothing else. -/
def shapeB (e : ExprV) : Bool :=
  if e.kind = 1 then decide (e.op = 0 ∧ e.name = ByteArray.empty ∧ e.subs.length = 0)
  else if e.kind = 2 then decide (e.op = 0 ∧ e.value = 0 ∧ e.width = 0 ∧ e.subs.length = 0)
  else if e.kind = 3 then decide (e.op = 0 ∧ e.value = 0 ∧ e.width = 0 ∧ e.subs.length = 1)
  else if e.kind = 4 then decide (e.op = 0 ∧ e.value = 0 ∧ e.width = 0 ∧ e.name = ByteArray.empty ∧ e.subs.length = 1)
  else if e.kind = 5 then decide (opOk e.op = true ∧ opTwo e.op = false ∧ e.value = 0 ∧ e.width = 0 ∧ e.name = ByteArray.empty ∧ e.subs.length = 1)
  else if e.kind = 6 then decide (opTwo e.op = true ∧ e.value = 0 ∧ e.width = 0 ∧ e.name = ByteArray.empty ∧ e.subs.length = 2)
  else if e.kind = 7 then decide (e.op = 0 ∧ e.value = 0 ∧ e.width = 0 ∧ e.name = ByteArray.empty ∧ e.subs.length = 3)
  else if e.kind = 8 then decide (e.op = 0 ∧ e.value = 0 ∧ e.name = ByteArray.empty ∧ e.subs.length = 1)
  else false
/-- Whether its widths are wrong. -/
def widthsB (p : ProgV) (E : Env) (e : ExprV) : Bool :=
  if e.kind = 1 then (!wideW e.width) || decide (e.value > mostW e.width)
  else if e.kind = 8 then !wideW e.width
  else if e.kind = 6 ∧ e.subs.length = 2 then differW (subW p E e.subs 0) (subW p E e.subs 1)
  else if e.kind = 7 ∧ e.subs.length = 3 then differW (subW p E e.subs 1) (subW p E e.subs 2)
  else false
def namesB (e : ExprV) : Bool := decide (e.kind = 2 ∨ e.kind = 3)
def limitP (p : ProgV) (small large : Int) : Int := if p.procs.length > 0 then small else large
/-- What is wrong with an expression itself. wh: 0 in a routine, 1 among the inputs, 2 in the invariant. -/
def exprE (p : ProgV) (E : Env) (wh : Int) (e : ExprV) (d : Nat) : Int :=
  if shapeB e = false then 325
  else if namesB e = true ∧ ((findW p E e.name).kind = 0 ∨ ¬ ((findW p E e.name).kind = 4 ↔ e.kind = 3)) then 321
  else if (wh = 1 ∧ (e.kind = 4 ∨ namesB e = true ∧ (findW p E e.name).kind ≠ 1)) ∨ (wh = 2 ∧ namesB e = true ∧ ((findW p E e.name).kind = 3 ∨ (findW p E e.name).kind = 4)) then 326
  else if widthsB p E e = true then 322
  else if (d : Int) > limitP p 32 1000 then 319
  else 0
mutual
def exprC (p : ProgV) (E : Env) (wh : Int) : ExprV → Nat → List Int
  | .mk k op v wd nm sp subs, d => exprE p E wh (.mk k op v wd nm sp subs) d :: exprsC p E wh subs (d + 1)
def exprsC (p : ProgV) (E : Env) (wh : Int) : List ExprV → Nat → List Int
  | [], _ => []
  | e :: l, d => exprC p E wh e d ++ exprsC p E wh l d
end
theorem exprC_eq (p : ProgV) (E : Env) (wh : Int) (e : ExprV) (d : Nat) : exprC p E wh e d = exprE p E wh e d :: exprsC p E wh e.subs (d + 1) := by
  cases e; rw [exprC]; rfl
theorem exprsC_eq (p : ProgV) (E : Env) (wh : Int) : ∀ (l : List ExprV) (d : Nat), exprsC p E wh l d = l.flatMap (fun e => exprC p E wh e d)
  | [], _ => by rw [exprsC]; rfl
  | e :: l, d => by rw [exprsC, exprsC_eq p E wh l d]; rfl
/-- Whether a statement uses what its kind does, and nothing else. -/
def formB (s : StmtV) : Bool :=
  if s.kind = 1 then decide (s.bound = 0 ∧ s.thn.length = 0 ∧ s.els.length = 0 ∧ s.exprs.length = 1)
  else if s.kind = 2 then decide (s.bound = 0 ∧ s.thn.length = 0 ∧ s.els.length = 0 ∧ s.exprs.length = 2)
  else if s.kind = 3 then decide (s.name = ByteArray.empty ∧ s.bound = 0 ∧ s.thn.length = 0 ∧ s.els.length = 0 ∧ s.exprs.length = 2)
  else if s.kind = 4 ∨ s.kind = 5 then decide (s.name = ByteArray.empty ∧ s.bound = 0 ∧ s.thn.length = 0 ∧ s.els.length = 0 ∧ s.exprs.length = 0)
  else if s.kind = 6 then decide (s.name = ByteArray.empty ∧ s.bound = 0 ∧ s.exprs.length = 1)
  else if s.kind = 7 then decide (s.name = ByteArray.empty ∧ s.els.length = 0 ∧ s.exprs.length = 1)
  else if s.kind = 8 then decide (s.bound = 0 ∧ s.thn.length = 0 ∧ s.els.length = 0)
  else false
/-- Names, each once. -/
def hasN (l : List ByteArray) (s : ByteArray) : Bool := l.any fun x => decide (x = s)
def withN (l : List ByteArray) (s : ByteArray) : List ByteArray := if hasN l s = true then l else l ++ [s]
def callsN (l : List StmtV) : List ByteArray := (l.flatMap StmtV.pre).foldl (fun out s => if s.kind = 8 then withN out s.name else out) []
/-- The procedures that a procedure calls. -/
def nextP (p : ProgV) (i : Nat) : List Nat := match p.procs[i]? with
  | some q => (callsN q.body).filterMap fun s => (look (procsAt p) s).map Int.toNat
  | none => []
/-- Whether one leads to another one: what is left to be looked at, what was seen. -/
def leadsF (p : ProgV) (to : Nat) : Nat → List Nat → List Nat → Bool
  | 0, _, _ => false
  | _ + 1, _, [] => false
  | n + 1, seen, i :: todo => if i = to then true else if i ∈ seen then leadsF p to n seen todo else leadsF p to n (i :: seen) (todo ++ nextP p i)
def fuelP (p : ProgV) : Nat := 2 + ((List.range p.procs.length).map fun i => (nextP p i).length).sum
def leadsB (p : ProgV) (from_ to : Nat) : Bool := leadsF p to (fuelP p) [] [from_]
def argsL (p : ProgV) (E : Env) : List DeclV → List ExprV → Bool
  | d :: ds, e :: es => differW (widthE p E e) d.width || argsL p E ds es
  | _, _ => false
/-- Whether expressions are not those that a procedure has to be called with. -/
def argsB (p : ProgV) (E : Env) (i : Nat) (l : List ExprV) : Bool := match p.procs[i]? with
  | some q => if q.params.length ≠ l.length then true else argsL p E q.params l
  | none => false
/-- What is wrong with a statement that has its form. -/
def wrongE (p : ProgV) (E : Env) (s : StmtV) : Int :=
  if s.kind = 1 then
    (if (findW p E s.name).kind = 0 ∨ (findW p E s.name).kind = 1 ∨ (findW p E s.name).kind = 4 then 321
    else if differW (subW p E s.exprs 0) (findW p E s.name).width = true then 322 else 0)
  else if s.kind = 2 then
    (if (findW p E s.name).kind ≠ 4 then 321
    else if differW (subW p E s.exprs 1) (findW p E s.name).width = true then 322 else 0)
  else if s.kind = 3 then (if differW (subW p E s.exprs 1) p.width = true then 322 else 0)
  else if s.kind = 7 then (if s.bound < 1 ∨ s.bound > 16 then 329 else 0)
  else if s.kind = 8 then
    (match look (procsAt p) s.name with
    | none => 321
    | some i => if argsB p E i.toNat s.exprs = true then 327
      else if E.within ≥ 0 ∧ leadsB p i.toNat E.within.toNat = true then 328 else 0)
  else 0
def stmtE (p : ProgV) (E : Env) (s : StmtV) (d : Nat) : Int :=
  if formB s = true then (if wrongE p E s = 0 then (if (d : Int) > limitP p 32 1000 then 319 else 0) else wrongE p E s) else 325
mutual
def stmtC (p : ProgV) (E : Env) : StmtV → Nat → List Int
  | .mk k nm es ex b ts th os el, d => stmtE p E (.mk k nm es ex b ts th os el) d :: (exprsC p E 0 ex 1 ++ (stmtsC p E th (d + 1) ++ stmtsC p E el (d + 1)))
def stmtsC (p : ProgV) (E : Env) : List StmtV → Nat → List Int
  | [], _ => []
  | s :: l, d => stmtC p E s d ++ stmtsC p E l d
end
theorem stmtC_eq (p : ProgV) (E : Env) (s : StmtV) (d : Nat) : stmtC p E s d = stmtE p E s d :: (exprsC p E 0 s.exprs 1 ++ (stmtsC p E s.thn (d + 1) ++ stmtsC p E s.els (d + 1))) := by
  cases s; rw [stmtC]; rfl
theorem stmtsC_eq (p : ProgV) (E : Env) : ∀ (l : List StmtV) (d : Nat), stmtsC p E l d = l.flatMap (fun s => stmtC p E s d)
  | [], _ => by rw [stmtsC]; rfl
  | s :: l, d => by rw [stmtsC, stmtsC_eq p E l d]; rfl
/-- Names: signs, words, the names of inlined programs. -/
def words : List String := ["device", "width", "input", "ghost", "var", "array", "require", "init", "proc", "work", "recover", "invariant", "flush", "barrier", "write", "if", "else", "while", "bound", "call", "disk"]
def lower (c : UInt8) : Bool := decide (97 ≤ c.toNat ∧ c.toNat ≤ 122)
def nameSign (c : UInt8) : Bool := lower c || decide (48 ≤ c.toNat ∧ c.toNat ≤ 57) || decide (c.toNat = 95)
def isName (s : List UInt8) : Bool :=
  decide (s.length ≤ 16) && (match s with | c :: _ => lower c | [] => false) && s.all nameSign && words.all (fun w => decide (w.toUTF8.data.toList ≠ s))
/-- What stands before and behind the first point; none if there is no point. -/
def cutDot : List UInt8 → Option (List UInt8 × List UInt8)
  | [] => none
  | c :: l => if c.toNat = 46 then some ([], l) else (cutDot l).map fun x => (c :: x.1, x.2)
def nameB (p : ProgV) (s : List UInt8) : Bool := match cutDot s with
  | some (a, b) => if p.procs.length = 0 then isName a && isName b else isName s
  | none => isName s
def declE (p : ProgV) (before : List ByteArray) (isArray : Bool) (d : DeclV) : Int :=
  if hasN before d.name = true ∨ nameB p d.name.data.toList = false then 321
  else if wideW d.width = false then 322
  else if (if isArray = true then decide (1 ≤ d.size ∧ d.size ≤ 16) else decide (d.size = 0)) = false then 323
  else 0
def declsC (p : ProgV) (isArray : Bool) : List DeclV → List ByteArray → List Int
  | [], _ => []
  | d :: l, before => declE p before isArray d :: declsC p isArray l (before ++ [d.name])
def procE (p : ProgV) (before : List ByteArray) (q : ProcV) : Int :=
  if hasN before q.name = true ∨ nameB p q.name.data.toList = false then 321
  else if q.params.length > 8 then 327
  else 0
def thingNames (p : ProgV) : List ByteArray := (thingsP p).map (·.1)
def procC (p : ProgV) (before : List ByteArray) (i : Nat) (q : ProcV) : List Int :=
  procE p before q :: (declsC p false q.params (thingNames p) ++ stmtsC p (inside p i) q.body 1)
def procsC (p : ProgV) : List ProcV → Nat → List ByteArray → List Int
  | [], _, _ => []
  | q :: l, i, before => procC p before i q ++ procsC p l (i + 1) (before ++ [q.name])
def initE (p : ProgV) (before : List Int) (x : InitV) : Int :=
  if x.block < 0 ∨ x.block ≥ p.blocks ∨ x.block ∈ before then 324
  else if differW (widthE p outside x.value) p.width = true then 322
  else 0
def initsC (p : ProgV) : List InitV → List Int → List Int
  | [], _ => []
  | x :: l, before => (initE p before x :: exprC p outside 1 x.value 1) ++ initsC p l (before ++ [x.block])
def programE (p : ProgV) (size : Int) : Int :=
  if p.blocks < 1 ∨ p.blocks > 8 ∨ wideW p.width = false then 320
  else if p.inputs.length > 16 ∨ p.ghosts.length > 16 ∨ (p.vars.length : Int) > limitP p 16 256 ∨ p.arrays.length > 16 ∨ p.procs.length > 16 ∨ size > limitP p 2000 20000 then 5
  else 0
def names1 (p : ProgV) : List ByteArray := p.inputs.map DeclV.name
def names2 (p : ProgV) : List ByteArray := names1 p ++ p.ghosts.map DeclV.name
def names3 (p : ProgV) : List ByteArray := names2 p ++ p.vars.map DeclV.name
def names4 (p : ProgV) : List ByteArray := names3 p ++ p.arrays.map DeclV.name
/-- All codes of a light program with so many nodes. -/
def codesP (p : ProgV) (size : Int) : List Int :=
  programE p size :: (declsC p false p.inputs [] ++ (declsC p false p.ghosts (names1 p) ++ (declsC p false p.vars (names2 p) ++ (declsC p true p.arrays (names3 p) ++
    (exprC p outside 1 p.require 1 ++ (initsC p p.inits [] ++ (procsC p p.procs 0 (names4 p) ++ (stmtsC p outside p.work 1 ++ (stmtsC p outside p.recover 1 ++ exprC p outside 2 p.invariant 1)))))))))
/-- What is wrong, and where. -/
def probs : List Int → Nat → List (Int × Int)
  | [], _ => []
  | c :: l, n => if c = 0 then probs l (n + 1) else ((n : Int), c) :: probs l (n + 1)
theorem probs_append : ∀ (a b : List Int) (n : Nat), probs (a ++ b) n = probs a n ++ probs b (n + a.length)
  | [], b, n => by simp [probs]
  | c :: a, b, n => by
    rw [List.cons_append, probs, probs, probs_append a b (n + 1)]
    have e : n + 1 + a.length = n + (c :: a).length := by simp; omega
    rw [e]
    split <;> simp
theorem probs_snoc (a : List Int) (c : Int) : probs (a ++ [c]) 0 = probs a 0 ++ (if c = 0 then [] else [((a.length : Int), c)]) := by
  rw [probs_append]
  simp only [probs, Nat.zero_add]
theorem probs_nil : ∀ (a : List Int) (n : Nat), probs a n = [] ↔ ∀ c ∈ a, c = 0
  | [], n => by simp [probs]
  | c :: a, n => by
    rw [probs]
    by_cases h : c = 0
    · rw [if_pos h, probs_nil a (n + 1)]; simp [h]
    · rw [if_neg h]; simp [h]
theorem probs_len : ∀ (a : List Int) (n : Nat), (probs a n).length ≤ a.length
  | [], n => by simp [probs]
  | c :: a, n => by
    rw [probs]
    have := probs_len a (n + 1)
    split <;> simp <;> omega
end Go.Proofs.YtlibeobmdjeilaaGreatDoor
