/- The executor and what it leans on (PB): told in wip/x. -/
import Derived.Test.YtlibeobmdjeilaaGreatDoorPA
set_option linter.all false
namespace Go.Proofs.YtlibeobmdjeilaaGreatDoor.Ex
open Go
noncomputable section
/-- Quiet operations that do not look at memory. -/
def memFree : Op → Bool
  | .move .. => true
  | .assign .. => true
  | .pick .. => true
  | .build .. => true
  | .nilCheck .. => true
  | .binOp .. => true
  | .unOp .. => true
  | .makeFunc .. => true
  | .fieldAddr .. => true
  | .field .. => true
  | .indexAddr .. => true
  | .index .. => true
  | .extract .. => true
  | _ => false
def slotOk (ms : List Nat) (i : Nat) (all : List Oper) (t : Nat) : Bool := match prodOf t all 0 with
  | none => true
  | some j => befM ms i j || (befM ms j i || Nat.beq j i)
/-- What is new by operations ahead of operation i is there in all orders. -/
def freshBef (ms : List Nat) (i : Nat) : List Oper → Nat → Bool
  | [], _ => true
  | o :: l, j => (match Nat.blt j i && isFresh o.op with | true => befM ms i j | false => true) && freshBef ms i l (j + 1)
/-- All operations that act come before operation i, or behind it. -/
def actCmp (ms : List Nat) (i : Nat) : List Oper → Nat → Bool
  | [], _ => true
  | o :: l, j => (match isQ o.op || isFresh o.op with | true => true | false => befM ms i j || befM ms j i) && actCmp ms i l (j + 1)
def benO (ms : List Nat) (all : List Oper) (o : Oper) (i : Nat) : Bool := (slotsOf all i).all (slotOk ms i all) && (match isQ o.op with
    | true => (match memFree o.op with | true => true | false => freshBef ms i all 0 && actCmp ms i all 0)
    | false => (match isFresh o.op with | true => true | false => freshBef ms i all 0))
def benL (ms : List Nat) (all : List Oper) : List Oper → Nat → Bool
  | [], _ => true
  | o :: l, i => benO ms all o i && benL ms all l (i + 1)
def ben (n : Nat) (all : List Oper) : Bool := (edgesOk all 0 && dstsOk n all [] && chainOk (masks all []) all 0 []) && benL (masks all []) all all 0
/-- One operation, and what follows. -/
def runN (C : Ctx) (call yld : CallK) (nx : Nat) (all : List Oper) (o : Oper) (i : Nat) (ih : Fr → St → Option (Fr × St)) (fr : Fr) (S : St) : Option (Fr × St) := match wantedB fr all o with
  | none => none
  | some false => ih (fr.set o.dst (some (.tup []))) S
  | some true => match isQ o.op, isFresh o.op with
    | true, _ => match xval C fr S o.op with
      | some v => ih (fr.set o.dst (some v)) S
      | none => none
    | false, true => match freshV C fr (nx + i) o.op, S.hp.get (nx + i) with
      | some (v, ob), none => ih (fr.set o.dst (some v)) ⟨S.hp.set (some ob) (nx + i), S.nx⟩
      | _, _ => none
    | false, false => match xoper C call yld fr S o.op with
      | some (v, S') => match namesOk nx S S' all.length with
        | true => ih (fr.set o.dst (some v)) S'
        | false => none
      | none => none
def runF (C : Ctx) (call yld : CallK) (nx : Nat) (all : List Oper) : List Oper → Nat → Fr → St → Option (Fr × St)
  | [], _, fr, S => some (fr, S)
  | o :: l, i, fr, S => runN C call yld nx all o i (runF C call yld nx all l (i + 1)) fr S
end
end Go.Proofs.YtlibeobmdjeilaaGreatDoor.Ex
namespace Go.Proofs.YtlibeobmdjeilaaGreatDoor.Ex
open Go
noncomputable section
abbrev NA := N16 (Option XV)
abbrev NB := N16 (N16 (Option XV))
/-- An operand, looked up beforehand: a slot by what gets it. -/
inductive A where
  | t (f : NB → NA) (g : NA → Option XV)
  | p (p : P16)
  | c (v : XV)
  | no
/-- A slot, by what sets it. -/
inductive W where
  | s (f : (NA → NA) → NB → NB) (g : (Option XV → Option XV) → NA → NA)
  | p (p : P16)
def selF : D16 → ((NB → NA) → A) → A := @D16.rec (fun _ => ((NB → NA) → A) → A) (fun k => k (@N16.c0 NA)) (fun k => k (@N16.c1 NA)) (fun k => k (@N16.c2 NA)) (fun k => k (@N16.c3 NA)) (fun k => k (@N16.c4 NA)) (fun k => k (@N16.c5 NA)) (fun k => k (@N16.c6 NA)) (fun k => k (@N16.c7 NA)) (fun k => k (@N16.c8 NA)) (fun k => k (@N16.c9 NA)) (fun k => k (@N16.ca NA)) (fun k => k (@N16.cb NA)) (fun k => k (@N16.cc NA)) (fun k => k (@N16.cd NA)) (fun k => k (@N16.ce NA)) (fun k => k (@N16.cf NA))
def selG : D16 → ((NA → Option XV) → A) → A := @D16.rec (fun _ => ((NA → Option XV) → A) → A) (fun k => k (@N16.c0 (Option XV))) (fun k => k (@N16.c1 (Option XV))) (fun k => k (@N16.c2 (Option XV))) (fun k => k (@N16.c3 (Option XV))) (fun k => k (@N16.c4 (Option XV))) (fun k => k (@N16.c5 (Option XV))) (fun k => k (@N16.c6 (Option XV))) (fun k => k (@N16.c7 (Option XV))) (fun k => k (@N16.c8 (Option XV))) (fun k => k (@N16.c9 (Option XV))) (fun k => k (@N16.ca (Option XV))) (fun k => k (@N16.cb (Option XV))) (fun k => k (@N16.cc (Option XV))) (fun k => k (@N16.cd (Option XV))) (fun k => k (@N16.ce (Option XV))) (fun k => k (@N16.cf (Option XV)))
def updF : D16 → ((((N16 (Option XV)) → (N16 (Option XV))) → N16 (N16 (Option XV)) → N16 (N16 (Option XV))) → W) → W := @D16.rec (fun _ => ((((N16 (Option XV)) → (N16 (Option XV))) → N16 (N16 (Option XV)) → N16 (N16 (Option XV))) → W) → W) (fun k => k fun f t => @N16.rec (N16 (Option XV)) (fun _ => N16 (N16 (Option XV))) (fun c0 c1 c2 c3 c4 c5 c6 c7 c8 c9 ca cb cc cd ce cf => @N16.mk (N16 (Option XV)) (f c0) c1 c2 c3 c4 c5 c6 c7 c8 c9 ca cb cc cd ce cf) t) (fun k => k fun f t => @N16.rec (N16 (Option XV)) (fun _ => N16 (N16 (Option XV))) (fun c0 c1 c2 c3 c4 c5 c6 c7 c8 c9 ca cb cc cd ce cf => @N16.mk (N16 (Option XV)) c0 (f c1) c2 c3 c4 c5 c6 c7 c8 c9 ca cb cc cd ce cf) t) (fun k => k fun f t => @N16.rec (N16 (Option XV)) (fun _ => N16 (N16 (Option XV))) (fun c0 c1 c2 c3 c4 c5 c6 c7 c8 c9 ca cb cc cd ce cf => @N16.mk (N16 (Option XV)) c0 c1 (f c2) c3 c4 c5 c6 c7 c8 c9 ca cb cc cd ce cf) t) (fun k => k fun f t => @N16.rec (N16 (Option XV)) (fun _ => N16 (N16 (Option XV))) (fun c0 c1 c2 c3 c4 c5 c6 c7 c8 c9 ca cb cc cd ce cf => @N16.mk (N16 (Option XV)) c0 c1 c2 (f c3) c4 c5 c6 c7 c8 c9 ca cb cc cd ce cf) t) (fun k => k fun f t => @N16.rec (N16 (Option XV)) (fun _ => N16 (N16 (Option XV))) (fun c0 c1 c2 c3 c4 c5 c6 c7 c8 c9 ca cb cc cd ce cf => @N16.mk (N16 (Option XV)) c0 c1 c2 c3 (f c4) c5 c6 c7 c8 c9 ca cb cc cd ce cf) t) (fun k => k fun f t => @N16.rec (N16 (Option XV)) (fun _ => N16 (N16 (Option XV))) (fun c0 c1 c2 c3 c4 c5 c6 c7 c8 c9 ca cb cc cd ce cf => @N16.mk (N16 (Option XV)) c0 c1 c2 c3 c4 (f c5) c6 c7 c8 c9 ca cb cc cd ce cf) t) (fun k => k fun f t => @N16.rec (N16 (Option XV)) (fun _ => N16 (N16 (Option XV))) (fun c0 c1 c2 c3 c4 c5 c6 c7 c8 c9 ca cb cc cd ce cf => @N16.mk (N16 (Option XV)) c0 c1 c2 c3 c4 c5 (f c6) c7 c8 c9 ca cb cc cd ce cf) t) (fun k => k fun f t => @N16.rec (N16 (Option XV)) (fun _ => N16 (N16 (Option XV))) (fun c0 c1 c2 c3 c4 c5 c6 c7 c8 c9 ca cb cc cd ce cf => @N16.mk (N16 (Option XV)) c0 c1 c2 c3 c4 c5 c6 (f c7) c8 c9 ca cb cc cd ce cf) t) (fun k => k fun f t => @N16.rec (N16 (Option XV)) (fun _ => N16 (N16 (Option XV))) (fun c0 c1 c2 c3 c4 c5 c6 c7 c8 c9 ca cb cc cd ce cf => @N16.mk (N16 (Option XV)) c0 c1 c2 c3 c4 c5 c6 c7 (f c8) c9 ca cb cc cd ce cf) t) (fun k => k fun f t => @N16.rec (N16 (Option XV)) (fun _ => N16 (N16 (Option XV))) (fun c0 c1 c2 c3 c4 c5 c6 c7 c8 c9 ca cb cc cd ce cf => @N16.mk (N16 (Option XV)) c0 c1 c2 c3 c4 c5 c6 c7 c8 (f c9) ca cb cc cd ce cf) t) (fun k => k fun f t => @N16.rec (N16 (Option XV)) (fun _ => N16 (N16 (Option XV))) (fun c0 c1 c2 c3 c4 c5 c6 c7 c8 c9 ca cb cc cd ce cf => @N16.mk (N16 (Option XV)) c0 c1 c2 c3 c4 c5 c6 c7 c8 c9 (f ca) cb cc cd ce cf) t) (fun k => k fun f t => @N16.rec (N16 (Option XV)) (fun _ => N16 (N16 (Option XV))) (fun c0 c1 c2 c3 c4 c5 c6 c7 c8 c9 ca cb cc cd ce cf => @N16.mk (N16 (Option XV)) c0 c1 c2 c3 c4 c5 c6 c7 c8 c9 ca (f cb) cc cd ce cf) t) (fun k => k fun f t => @N16.rec (N16 (Option XV)) (fun _ => N16 (N16 (Option XV))) (fun c0 c1 c2 c3 c4 c5 c6 c7 c8 c9 ca cb cc cd ce cf => @N16.mk (N16 (Option XV)) c0 c1 c2 c3 c4 c5 c6 c7 c8 c9 ca cb (f cc) cd ce cf) t) (fun k => k fun f t => @N16.rec (N16 (Option XV)) (fun _ => N16 (N16 (Option XV))) (fun c0 c1 c2 c3 c4 c5 c6 c7 c8 c9 ca cb cc cd ce cf => @N16.mk (N16 (Option XV)) c0 c1 c2 c3 c4 c5 c6 c7 c8 c9 ca cb cc (f cd) ce cf) t) (fun k => k fun f t => @N16.rec (N16 (Option XV)) (fun _ => N16 (N16 (Option XV))) (fun c0 c1 c2 c3 c4 c5 c6 c7 c8 c9 ca cb cc cd ce cf => @N16.mk (N16 (Option XV)) c0 c1 c2 c3 c4 c5 c6 c7 c8 c9 ca cb cc cd (f ce) cf) t) (fun k => k fun f t => @N16.rec (N16 (Option XV)) (fun _ => N16 (N16 (Option XV))) (fun c0 c1 c2 c3 c4 c5 c6 c7 c8 c9 ca cb cc cd ce cf => @N16.mk (N16 (Option XV)) c0 c1 c2 c3 c4 c5 c6 c7 c8 c9 ca cb cc cd ce (f cf)) t)
def updG : D16 → ((((Option XV) → (Option XV)) → N16 (Option XV) → N16 (Option XV)) → W) → W := @D16.rec (fun _ => ((((Option XV) → (Option XV)) → N16 (Option XV) → N16 (Option XV)) → W) → W) (fun k => k fun f t => @N16.rec (Option XV) (fun _ => N16 (Option XV)) (fun c0 c1 c2 c3 c4 c5 c6 c7 c8 c9 ca cb cc cd ce cf => @N16.mk (Option XV) (f c0) c1 c2 c3 c4 c5 c6 c7 c8 c9 ca cb cc cd ce cf) t) (fun k => k fun f t => @N16.rec (Option XV) (fun _ => N16 (Option XV)) (fun c0 c1 c2 c3 c4 c5 c6 c7 c8 c9 ca cb cc cd ce cf => @N16.mk (Option XV) c0 (f c1) c2 c3 c4 c5 c6 c7 c8 c9 ca cb cc cd ce cf) t) (fun k => k fun f t => @N16.rec (Option XV) (fun _ => N16 (Option XV)) (fun c0 c1 c2 c3 c4 c5 c6 c7 c8 c9 ca cb cc cd ce cf => @N16.mk (Option XV) c0 c1 (f c2) c3 c4 c5 c6 c7 c8 c9 ca cb cc cd ce cf) t) (fun k => k fun f t => @N16.rec (Option XV) (fun _ => N16 (Option XV)) (fun c0 c1 c2 c3 c4 c5 c6 c7 c8 c9 ca cb cc cd ce cf => @N16.mk (Option XV) c0 c1 c2 (f c3) c4 c5 c6 c7 c8 c9 ca cb cc cd ce cf) t) (fun k => k fun f t => @N16.rec (Option XV) (fun _ => N16 (Option XV)) (fun c0 c1 c2 c3 c4 c5 c6 c7 c8 c9 ca cb cc cd ce cf => @N16.mk (Option XV) c0 c1 c2 c3 (f c4) c5 c6 c7 c8 c9 ca cb cc cd ce cf) t) (fun k => k fun f t => @N16.rec (Option XV) (fun _ => N16 (Option XV)) (fun c0 c1 c2 c3 c4 c5 c6 c7 c8 c9 ca cb cc cd ce cf => @N16.mk (Option XV) c0 c1 c2 c3 c4 (f c5) c6 c7 c8 c9 ca cb cc cd ce cf) t) (fun k => k fun f t => @N16.rec (Option XV) (fun _ => N16 (Option XV)) (fun c0 c1 c2 c3 c4 c5 c6 c7 c8 c9 ca cb cc cd ce cf => @N16.mk (Option XV) c0 c1 c2 c3 c4 c5 (f c6) c7 c8 c9 ca cb cc cd ce cf) t) (fun k => k fun f t => @N16.rec (Option XV) (fun _ => N16 (Option XV)) (fun c0 c1 c2 c3 c4 c5 c6 c7 c8 c9 ca cb cc cd ce cf => @N16.mk (Option XV) c0 c1 c2 c3 c4 c5 c6 (f c7) c8 c9 ca cb cc cd ce cf) t) (fun k => k fun f t => @N16.rec (Option XV) (fun _ => N16 (Option XV)) (fun c0 c1 c2 c3 c4 c5 c6 c7 c8 c9 ca cb cc cd ce cf => @N16.mk (Option XV) c0 c1 c2 c3 c4 c5 c6 c7 (f c8) c9 ca cb cc cd ce cf) t) (fun k => k fun f t => @N16.rec (Option XV) (fun _ => N16 (Option XV)) (fun c0 c1 c2 c3 c4 c5 c6 c7 c8 c9 ca cb cc cd ce cf => @N16.mk (Option XV) c0 c1 c2 c3 c4 c5 c6 c7 c8 (f c9) ca cb cc cd ce cf) t) (fun k => k fun f t => @N16.rec (Option XV) (fun _ => N16 (Option XV)) (fun c0 c1 c2 c3 c4 c5 c6 c7 c8 c9 ca cb cc cd ce cf => @N16.mk (Option XV) c0 c1 c2 c3 c4 c5 c6 c7 c8 c9 (f ca) cb cc cd ce cf) t) (fun k => k fun f t => @N16.rec (Option XV) (fun _ => N16 (Option XV)) (fun c0 c1 c2 c3 c4 c5 c6 c7 c8 c9 ca cb cc cd ce cf => @N16.mk (Option XV) c0 c1 c2 c3 c4 c5 c6 c7 c8 c9 ca (f cb) cc cd ce cf) t) (fun k => k fun f t => @N16.rec (Option XV) (fun _ => N16 (Option XV)) (fun c0 c1 c2 c3 c4 c5 c6 c7 c8 c9 ca cb cc cd ce cf => @N16.mk (Option XV) c0 c1 c2 c3 c4 c5 c6 c7 c8 c9 ca cb (f cc) cd ce cf) t) (fun k => k fun f t => @N16.rec (Option XV) (fun _ => N16 (Option XV)) (fun c0 c1 c2 c3 c4 c5 c6 c7 c8 c9 ca cb cc cd ce cf => @N16.mk (Option XV) c0 c1 c2 c3 c4 c5 c6 c7 c8 c9 ca cb cc (f cd) ce cf) t) (fun k => k fun f t => @N16.rec (Option XV) (fun _ => N16 (Option XV)) (fun c0 c1 c2 c3 c4 c5 c6 c7 c8 c9 ca cb cc cd ce cf => @N16.mk (Option XV) c0 c1 c2 c3 c4 c5 c6 c7 c8 c9 ca cb cc cd (f ce) cf) t) (fun k => k fun f t => @N16.rec (Option XV) (fun _ => N16 (Option XV)) (fun c0 c1 c2 c3 c4 c5 c6 c7 c8 c9 ca cb cc cd ce cf => @N16.mk (Option XV) c0 c1 c2 c3 c4 c5 c6 c7 c8 c9 ca cb cc cd ce (f cf)) t)
def plA : P16 → A := @P16.rec (fun _ => A) (fun a b => selF a fun f => selG b fun g => .t f g) (fun a b c d => .p (.m a b c d)) (fun n => .p (.h n))
def plW : P16 → W := @P16.rec (fun _ => W) (fun a b => updF a fun f => updG b fun g => .s f g) (fun a b c d => .p (.m a b c d)) (fun n => .p (.h n))
def setW : W → XV → T XV → T XV := @W.rec (fun _ => XV → T XV → T XV) (fun f g v t => @T.mk XV (f (g fun _ => some v) t.s) t.m t.h) (fun p v t => T.setP p XV (some v) t)
def decV (v : Value) : A := match xvOf v with
  | some x => .c x
  | none => .no
def decA (fl : Nat) (x : Operand) : A := match x with
  | .tmp t => plA (pl t)
  | .const v => decV v
  | .global g => match Nat.beq g 0 with
    | true => .c (.ptr 0 0)
    | false => .no
  | .func f => .c (.fn f [] [])
def evA : A → T XV → Option XV := @A.rec (fun _ => T XV → Option XV) (fun f g tm => g (f tm.s)) (fun p tm => T.getP p XV tm) (fun v _ => some v) (fun _ => none)
def decL (fl : Nat) (l : List Operand) : List A := List.map (decA fl) l
def evsA : List A → T XV → Option (List XV) := @List.rec A (fun _ => T XV → Option (List XV)) (fun _ => some []) (fun a _ ih tm => @Option.rec XV (fun _ => Option (List XV)) none (fun v => @Option.rec (List XV) (fun _ => Option (List XV)) none (fun vs => some (v :: vs)) (ih tm)) (evA a tm))
inductive IO2 where
  | no
  | it (k : IntKind) (n : Int)
inductive PO2 where
  | no
  | pt (b o : Nat)
inductive SO2 where
  | no
  | sl (b o len : Nat)
inductive FO2 where
  | no
  | fn (f : Nat) (a b : List XV)
  | yl (l : Nat)
def toI : XV → IO2 := @XV.rec (fun _ => IO2) (fun _ => Unit) (fun _ => .no) (.it) (fun _ => .no) .no (fun _ _ => .no) .no (fun _ _ _ _ => .no) .no .no (fun _ => .no) .no (fun _ _ _ _ _ => .no) (fun _ => .no) (fun _ _ => .no) (fun _ _ => .no) () (fun _ _ _ _ => ())
def toP : XV → PO2 := @XV.rec (fun _ => PO2) (fun _ => Unit) (fun _ => .no) (fun _ _ => .no) (fun _ => .no) .no (.pt) .no (fun _ _ _ _ => .no) .no .no (fun _ => .no) .no (fun _ _ _ _ _ => .no) (fun _ => .no) (fun _ _ => .no) (fun _ _ => .no) () (fun _ _ _ _ => ())
def toS : XV → SO2 := @XV.rec (fun _ => SO2) (fun _ => Unit) (fun _ => .no) (fun _ _ => .no) (fun _ => .no) .no (fun _ _ => .no) .no (fun b o n _ => .sl b o n) .no .no (fun _ => .no) .no (fun _ _ _ _ _ => .no) (fun _ => .no) (fun _ _ => .no) (fun _ _ => .no) () (fun _ _ _ _ => ())
def toF : XV → FO2 := @XV.rec (fun _ => FO2) (fun _ => Unit) (fun _ => .no) (fun _ _ => .no) (fun _ => .no) .no (fun _ _ => .no) .no (fun _ _ _ _ => .no) .no .no (fun _ => .no) .no (fun f a b _ _ => .fn f a b) (.yl) (fun _ _ => .no) (fun _ _ => .no) () (fun _ _ _ _ => ())
def toB : XV → Option Bool := @XV.rec (fun _ => Option Bool) (fun _ => Unit) (some) (fun _ _ => none) (fun _ => none) none (fun _ _ => none) none (fun _ _ _ _ => none) none none (fun _ => none) none (fun _ _ _ _ _ => none) (fun _ => none) (fun _ _ => none) (fun _ _ => none) () (fun _ _ _ _ => ())
def toL : XV → Option (List XV) := @XV.rec (fun _ => Option (List XV)) (fun _ => Unit) (fun _ => none) (fun _ _ => none) (fun _ => none) none (fun _ _ => none) none (fun _ _ _ _ => none) none none (fun _ => none) none (fun _ _ _ _ _ => none) (fun _ => none) (fun l _ => some l) (fun _ _ => none) () (fun _ _ _ _ => ())
def toT : XV → Option (List XV) := @XV.rec (fun _ => Option (List XV)) (fun _ => Unit) (fun _ => none) (fun _ _ => none) (fun _ => none) none (fun _ _ => none) none (fun _ _ _ _ => none) none none (fun _ => none) none (fun _ _ _ _ _ => none) (fun _ => none) (fun _ _ => none) (fun l _ => some l) () (fun _ _ _ _ => ())
def isOne : XV → Bool := @XV.rec (fun _ => Bool) (fun _ => Unit) (fun _ => true) (fun _ _ => true) (fun _ => true) true (fun _ _ => true) true (fun _ _ _ _ => true) true true (fun _ => true) true (fun _ _ _ _ _ => true) (fun _ => true) (fun _ _ => false) (fun _ _ => false) () (fun _ _ _ _ => ())
def nilX : XV → Option XV := @XV.rec (fun _ => Option XV) (fun _ => Unit) (fun _ => none) (fun _ _ => none) (fun _ => none) none (fun b o => some (.ptr b o)) none (fun _ _ _ _ => none) none none (fun _ => none) none (fun f a b _ _ => some (.fn f a b)) (fun l => some (.yld l)) (fun _ _ => none) (fun _ _ => none) () (fun _ _ _ _ => ())
def lenX : XV → Option Nat := @XV.rec (fun _ => Option Nat) (fun _ => Unit) (fun _ => none) (fun _ _ => none) (fun _ => none) none (fun _ _ => none) ((some 0)) (fun _ _ n _ => some n) ((some 0)) none (fun _ => none) none (fun _ _ _ _ _ => none) (fun _ => none) (fun _ _ => none) (fun _ _ => none) () (fun _ _ _ _ => ())
def nth : List XV → Nat → Option XV := @List.rec XV (fun _ => Nat → Option XV) (fun _ => none) (fun x _ ih n => @Nat.rec (fun _ => Option XV) (some x) (fun m _ => ih m) n)
def cellsO : XO → Option XB := @XO.rec (fun _ => Option XB) some (fun _ _ => none) (fun _ _ => none) (fun _ => none) (fun _ => none)
def ld1 (S : St) (b o : Nat) : Option XV := @Option.rec XO (fun _ => Option XV) none (fun ob => @Option.rec XB (fun _ => Option XV) none (fun B => nth B.cs o) (cellsO ob)) (S.hp.get b)
def aggO (l : Option (List XV)) : Option XV := @Option.rec (List XV) (fun _ => Option XV) none (fun l => some (.agg l)) l
def ldn (n : Nat) (S : St) (b o : Nat) : Option XV := @Option.rec XO (fun _ => Option XV) none (fun ob => @Option.rec XB (fun _ => Option XV) none (fun B => aggO (takeL (B.cs.drop o) n)) (cellsO ob)) (S.hp.get b)
def consO (x : XV) (r : Option (List XV)) : Option (List XV) := @Option.rec (List XV) (fun _ => Option (List XV)) none (fun r => some (x :: r)) r
def set1L : List XV → XV → Nat → Option (List XV) := @List.rec XV (fun _ => XV → Nat → Option (List XV)) (fun _ _ => none) (fun x l ih v n => @Nat.rec (fun _ => Option (List XV)) (some (v :: l)) (fun m _ => consO x (ih v m)) n)
def put1 (fl : Nat) (S : St) (b o : Nat) (B : XB) (cs : List XV) : Option St := @XB.rec (fun _ => Option St) (fun _ sz fz own lb => @Bool.rec (fun _ => Option St) none (@Bool.rec (fun _ => Option St) none (some ⟨S.hp.set (some (.cells ⟨cs, sz, fz, own, lb⟩)) b, S.nx⟩) (Nat.ble fl b)) (Nat.ble fz o)) B
def st1 (fl : Nat) (S : St) (b o : Nat) (v : XV) : Option St := @Option.rec XO (fun _ => Option St) none (fun ob => @Option.rec XB (fun _ => Option St) none (fun B => @Option.rec (List XV) (fun _ => Option St) none (put1 fl S b o B) (set1L B.cs v o)) (cellsO ob)) (S.hp.get b)
/-- Equal kinds, by a table. -/
def kq2 : IntKind → IntKind → Bool := @IntKind.rec (fun _ => IntKind → Bool) (@IntKind.rec (fun _ => Bool) true false false false false false false false) (@IntKind.rec (fun _ => Bool) false true false false false false false false) (@IntKind.rec (fun _ => Bool) false false true false false false false false) (@IntKind.rec (fun _ => Bool) false false false true false false false false) (@IntKind.rec (fun _ => Bool) false false false false true false false false) (@IntKind.rec (fun _ => Bool) false false false false false true false false) (@IntKind.rec (fun _ => Bool) false false false false false false true false) (@IntKind.rec (fun _ => Bool) false false false false false false false true)
def wrapK : IntKind → Nat → Int := @IntKind.rec (fun _ => Nat → Int) (fun s => IntKind.i8.wrap (.ofNat s)) (fun s => IntKind.i16.wrap (.ofNat s)) (fun s => IntKind.i32.wrap (.ofNat s)) (fun s => @Bool.rec (fun _ => Int) (IntKind.i64.wrap (.ofNat s)) (.ofNat s) (Nat.ble (Nat.succ s) 9223372036854775808)) (fun s => .ofNat (Nat.mod s 256)) (fun s => .ofNat (Nat.mod s 65536)) (fun s => .ofNat (Nat.mod s 4294967296)) (fun s => .ofNat (Nat.mod s 18446744073709551616))
def wrap2 : Int → IntKind → Int := @Int.rec (fun _ => IntKind → Int) (fun s k => wrapK k s) (fun s k => k.wrap (.negSucc s))
def lt2 : Int → Int → Bool := @Int.rec (fun _ => Int → Bool) (fun a => @Int.rec (fun _ => Bool) (fun b => Nat.ble (Nat.succ a) b) (fun _ => false)) (fun a => @Int.rec (fun _ => Bool) (fun _ => true) (fun b => Nat.ble (Nat.succ b) a))
def eq2 : Int → Int → Bool := @Int.rec (fun _ => Int → Bool) (fun a => @Int.rec (fun _ => Bool) (fun b => Nat.beq a b) (fun _ => false)) (fun a => @Int.rec (fun _ => Bool) (fun _ => false) (fun b => Nat.beq a b))
def add2 : Int → Int → IntKind → Int := @Int.rec (fun _ => Int → IntKind → Int) (fun a => @Int.rec (fun _ => IntKind → Int) (fun b k => wrapK k (Nat.add a b)) (fun b k => iwrap k (Int.ofNat a + Int.negSucc b))) (fun a b k => iwrap k (Int.negSucc a + b))
def sub2 : Int → Int → IntKind → Int := @Int.rec (fun _ => Int → IntKind → Int) (fun a => @Int.rec (fun _ => IntKind → Int) (fun b k => @Bool.rec (fun _ => Int) (iwrap k (Int.ofNat a - Int.ofNat b)) (wrapK k (Nat.sub a b)) (Nat.ble b a)) (fun b k => iwrap k (Int.ofNat a - Int.negSucc b))) (fun a b k => iwrap k (Int.negSucc a - b))
abbrev BF := IntKind → Int → Int → Option XV
def f_add : BF := fun k a b => some (.int k (add2 a b k))
def f_sub : BF := fun k a b => some (.int k (sub2 a b k))
def f_eql : BF := fun _ a b => some (.bool (eq2 a b))
def f_neq : BF := fun _ a b => some (.bool (!(eq2 a b)))
def f_lss : BF := fun _ a b => some (.bool (lt2 a b))
def f_leq : BF := fun _ a b => some (.bool (!(lt2 b a)))
def f_gtr : BF := fun _ a b => some (.bool (lt2 b a))
def f_geq : BF := fun _ a b => some (.bool (!(lt2 a b)))
/-- Two ints of one kind; else by the plain way. -/
def bin2 (f : BF) (d : XV → XV → Option XV) (x y : XV) : Option XV := @IO2.rec (fun _ => Option XV) (d x y) (fun k a => @IO2.rec (fun _ => Option XV) (d x y) (fun j b => @Bool.rec (fun _ => Option XV) none (f k a b) (kq2 k j)) (toI y)) (toI x)
inductive D where
  | mv (a : A)
  | ld (a : A)
  | ldn (n : Nat) (a : A)
  | bi (f : BF) (op : BinOp) (t : Nat) (x y : A)
  | bin (op : BinOp) (t : Nat) (x y : A)
  | nt (x : A)
  | fad (off : Nat) (x : A)
  | fl1 (off : Nat) (x : A)
  | fln (off n : Nat) (x : A)
  | ixs (sz : Nat) (x y : A)
  | ex (j : Nat) (x : A)
  | nl (x : A)
  | cvi (k : IntKind) (x : A)
  | len (x : A)
  | bp (offs : List Nat) (z : List XV) (xs : List A) (o : Op)
  | q (o : Op)
def fadOff (C : Ctx) (t f : Nat) : Option Nat := match C.ty t with
  | some i => match i.und with
    | .struct fs => match fs[f]? with
      | some fd => match C.ty fd.type with
        | some fi => match Nat.beq fi.size 0 with
          | true => none
          | false => some fd.offset
        | none => none
      | none => none
    | _ => none
  | none => none
def fl1Off (C : Ctx) (t f : Nat) : Option (Nat × Option Nat) := match C.ty t with
  | some i => match i.und with
    | .struct fs => match fs[f]? with
      | some fd => match C.ty fd.type with
        | some fi => match isAg fi.und with
          | true => some (fd.offset, some fi.size)
          | false => some (fd.offset, none)
        | none => none
      | none => none
    | _ => none
  | none => none
def ixSz (C : Ctx) (t : Nat) : Option Nat := match C.ty t with
  | some i => match i.und with
    | .slice e => match C.ty e with
      | some ei => some ei.size
      | none => none
    | _ => none
  | none => none
def cvK (C : Ctx) (s d : Nat) : Option IntKind := match C.ty s, C.ty d with
  | some s, some d => match s.und, d.und with
    | .int _, .int k => some k
    | _, _ => none
  | _, _ => none
/-- Where the parts of a struct of one-cell fields stand. -/
def offsOf (C : Ctx) (fs : Array Field) : List (Nat × Operand) → Option (List Nat)
  | [] => some []
  | p :: l => match fs[p.1]? with
    | some f => match C.ty f.type with
      | some fi => match Nat.beq fi.size 1, offsOf C fs l with
        | true, some r => some (f.offset :: r)
        | _, _ => none
      | none => none
    | none => none
def bldT (C : Ctx) (t : Nat) (ps : List (Nat × Operand)) : Option (List Nat × List XV) := match C.ty t with
  | some i => match i.und with
    | .struct fs => match offsOf C fs ps with
      | some offs => some (offs, i.zero)
      | none => none
    | _ => none
  | none => none
def allOne : List XV → Bool := @List.rec XV (fun _ => Bool) true (fun v _ ih => @Bool.rec (fun _ => Bool) false ih (isOne v))
def fillV : List Nat → List XV → List XV → Option (List XV) := @List.rec Nat (fun _ => List XV → List XV → Option (List XV)) (fun _ z => some z) (fun off _ ih vs z => @List.rec XV (fun _ => Option (List XV)) none (fun v vs _ => @Option.rec (List XV) (fun _ => Option (List XV)) none (ih vs) (set1L z v off)) vs)
def lenT (C : Ctx) (c : Call) : Option Operand := match c.callee, c.argTypes.toList, c.args.toList with
  | .builtin .len, t :: _, [x] => match C.ty t with
    | some i => match i.und with
      | .slice _ => some x
      | _ => none
    | none => none
  | _, _, _ => none
def decB (op : BinOp) (t : Nat) (x y : A) : D := match op with
  | .add => .bi f_add .add t x y
  | .sub => .bi f_sub .sub t x y
  | .eql => .bi f_eql .eql t x y
  | .neq => .bi f_neq .neq t x y
  | .lss => .bi f_lss .lss t x y
  | .leq => .bi f_leq .leq t x y
  | .gtr => .bi f_gtr .gtr t x y
  | .geq => .bi f_geq .geq t x y
  | op => .bin op t x y
def decD (C : Ctx) (o : Op) : D := match o with
  | .move x => .mv (decA C.fl x)
  | .assign x => .mv (decA C.fl x)
  | .load t a => match C.ty t with
    | some i => match isAg i.und with
      | true => .ldn i.size (decA C.fl a)
      | false => .ld (decA C.fl a)
    | none => .q (.load t a)
  | .binOp op t x y _ => decB op t (decA C.fl x) (decA C.fl y)
  | .unOp .not _ x => .nt (decA C.fl x)
  | .fieldAddr t x f => match fadOff C t f with
    | some off => .fad off (decA C.fl x)
    | none => .q (.fieldAddr t x f)
  | .field t x f => match fl1Off C t f with
    | some (off, none) => .fl1 off (decA C.fl x)
    | some (off, some n) => .fln off n (decA C.fl x)
    | none => .q (.field t x f)
  | .indexAddr t x j => match ixSz C t with
    | some sz => .ixs sz (decA C.fl x) (decA C.fl j)
    | none => .q (.indexAddr t x j)
  | .extract x j => .ex j (decA C.fl x)
  | .nilCheck x => .nl (decA C.fl x)
  | .convert s d x => match cvK C s d with
    | some k => .cvi k (decA C.fl x)
    | none => .q (.convert s d x)
  | .build t ps => match bldT C t ps.toList with
    | some r => .bp r.1 r.2 (decL C.fl (ps.toList.map (·.2))) (.build t ps)
    | none => .q (.build t ps)
  | .call c => match lenT C c with
    | some x => .len (decA C.fl x)
    | none => .q (.call c)
  | o => .q o
def two (f : XV → XV → Option XV) (x y : A) (tm : T XV) : Option XV := @Option.rec XV (fun _ => Option XV) none (fun a => @Option.rec XV (fun _ => Option XV) none (f a) (evA y tm)) (evA x tm)
def on1 (f : XV → Option XV) (x : A) (tm : T XV) : Option XV := @Option.rec XV (fun _ => Option XV) none f (evA x tm)
def ldV (S : St) (v : XV) : Option XV := @PO2.rec (fun _ => Option XV) none (ld1 S) (toP v)
def ldnV (n : Nat) (S : St) (v : XV) : Option XV := @PO2.rec (fun _ => Option XV) none (ldn n S) (toP v)
def ntV (v : XV) : Option XV := @Option.rec Bool (fun _ => Option XV) none (fun b => some (.bool (!b))) (toB v)
def fadV (off : Nat) (v : XV) : Option XV := @PO2.rec (fun _ => Option XV) none (fun b o => some (.ptr b (Nat.add o off))) (toP v)
def flV (off : Nat) (v : XV) : Option XV := @Option.rec (List XV) (fun _ => Option XV) none (fun cs => nth cs off) (toL v)
def flnV (off n : Nat) (v : XV) : Option XV := @Option.rec (List XV) (fun _ => Option XV) none (fun cs => aggO (takeL (cs.drop off) n)) (toL v)
def exV (j : Nat) (v : XV) : Option XV := @Option.rec (List XV) (fun _ => Option XV) none (fun cs => nth cs j) (toT v)
def cvV (k : IntKind) (v : XV) : Option XV := @IO2.rec (fun _ => Option XV) none (fun _ n => some (.int k (wrap2 n k))) (toI v)
def lenV (v : XV) : Option XV := @Option.rec Nat (fun _ => Option XV) none (fun n => some (.int .i64 (.ofNat n))) (lenX v)
def ixI (sz b o len : Nat) : Int → Option XV := @Int.rec (fun _ => Option XV) (fun n => @Bool.rec (fun _ => Option XV) none (some (.ptr b (Nat.add o (Nat.mul n sz)))) (Nat.ble (Nat.succ n) len)) (fun _ => none)
def ixV (sz : Nat) (v w : XV) : Option XV := @SO2.rec (fun _ => Option XV) none (fun b o len => @IO2.rec (fun _ => Option XV) none (fun _ n => ixI sz b o len n) (toI w)) (toS v)
def valD : D → Ctx → T XV → St → Option XV := @D.rec (fun _ => Ctx → T XV → St → Option XV)
  (fun a _ tm _ => evA a tm)
  (fun a _ tm S => on1 (ldV S) a tm)
  (fun n a _ tm S => on1 (ldnV n S) a tm)
  (fun f op t x y C tm _ => two (bin2 f (xbin C t op)) x y tm)
  (fun op t x y C tm _ => two (xbin C t op) x y tm)
  (fun x _ tm _ => on1 ntV x tm)
  (fun off x _ tm _ => on1 (fadV off) x tm)
  (fun off x _ tm _ => on1 (flV off) x tm)
  (fun off n x _ tm _ => on1 (flnV off n) x tm)
  (fun sz x y _ tm _ => two (ixV sz) x y tm)
  (fun j x _ tm _ => on1 (exV j) x tm)
  (fun x _ tm _ => on1 nilX x tm)
  (fun k x _ tm _ => on1 (cvV k) x tm)
  (fun x _ tm _ => on1 lenV x tm)
  (fun offs z xs o C tm S => @Option.rec (List XV) (fun _ => Option XV) none (fun vs => @Bool.rec (fun _ => Option XV) (xval C ⟨0, tm, []⟩ S o) (aggO (fillV offs vs z)) (allOne vs)) (evsA xs tm))
  (fun o C tm S => xval C ⟨0, tm, []⟩ S o)
/-- An operation of a region: quiet with a slot (perhaps guarded); a store of one cell; a call; a new row; all else. -/
inductive DI where
  | q (p : W) (d : D)
  | g (t : A) (want : Bool) (p : W) (d : D)
  | st (a x : A)
  | cl (p : W) (f : A) (l : List A)
  | al (p : W) (z : List XV)
  | bx (p : W) (x : A)
  | sl (o : Oper)
def decS (C : Ctx) (o : Oper) : DI := match o.op with
  | .store t a x => match C.ty t with
    | some i => match Nat.beq i.size 1 with
      | true => .st (decA C.fl a) (decA C.fl x)
      | false => .sl o
    | none => .sl o
  | _ => .sl o
def decQ (C : Ctx) (p : W) (o : Oper) : DI := match isQ o.op with
  | true => .q p (decD C o.op)
  | false => match o.op with
    | .call c => match c.callee with
      | .value f => .cl p (decA C.fl f) (decL C.fl c.args.toList)
      | _ => .sl o
    | .alloc t => match C.ty t with
      | some i => .al p i.zero
      | none => .sl o
    | .box _ x => .bx p (decA C.fl x)
    | _ => .sl o
/-- The slot of a guard. -/
def gSlot (all : List Oper) (j : Nat) : Option Nat := match all[j]? with
  | some g => g.dst
  | none => none
def decG (C : Ctx) (n : Nat) (all : List Oper) (o : Oper) (j : Nat) (want : Bool) : DI := match gSlot all j, o.dst, isQ o.op with
  | some u, some t, true => match Nat.blt t n with
    | true => .g (plA (pl u)) want (plW (pl t)) (decD C o.op)
    | false => .sl o
  | _, _, _ => .sl o
def decI (C : Ctx) (n : Nat) (all : List Oper) (o : Oper) : DI := match o.guard with
  | some (j, want) => decG C n all o j want
  | none => match o.dst with
    | none => decS C o
    | some t => match Nat.blt t n with
      | true => decQ C (plW (pl t)) o
      | false => .sl o
/-- What a piece of code comes to. -/
inductive YR where
  | no
  | nrm (tm : T XV) (mk : List Nat) (S : St)
  | jmp (j : XJ) (tm : T XV) (mk : List Nat) (S : St)
abbrev YK := T XV → List Nat → St → YR
def yslow (C : Ctx) (call yld : CallK) (n : Nat) (all : List Oper) (o : Oper) (ih : YK) (tm : T XV) (mk : List Nat) (S : St) : YR := match wantedB ⟨n, tm, mk⟩ all o with
  | some true => match xoper C call yld ⟨n, tm, mk⟩ S o.op with
    | some (v, S') => ih (Fr.set ⟨n, tm, mk⟩ o.dst (some v)).tm mk S'
    | none => .no
  | some false => ih (Fr.set ⟨n, tm, mk⟩ o.dst (some (.tup []))).tm mk S
  | none => .no
def ycall (call yld : CallK) (f : XV) (args : List XV) (S : St) : Option (XV × St) := @FO2.rec (fun _ => Option (XV × St)) none (fun f a b => call f (a ++ args ++ b) S) (fun l => yld l args S) (toF f)
def retY (p : W) (ih : YK) (tm : T XV) (mk : List Nat) (r : Option (XV × St)) : YR := @Option.rec (XV × St) (fun _ => YR) .no (fun r => ih (setW p r.1 tm) mk r.2) r
def retQ (p : W) (ih : YK) (tm : T XV) (mk : List Nat) (S : St) (r : Option XV) : YR := @Option.rec XV (fun _ => YR) .no (fun v => ih (setW p v tm) mk S) r
def retS (ih : YK) (tm : T XV) (mk : List Nat) (r : Option St) : YR := @Option.rec St (fun _ => YR) .no (fun S' => ih tm mk S') r
def stV (fl : Nat) (w : XV) (S : St) (b o : Nat) : Option St := @Bool.rec (fun _ => Option St) (@Option.rec (List XV) (fun _ => Option St) none (fun cs => @Bool.rec (fun _ => Option St) none (S.store fl b o cs) (Nat.beq cs.length 1)) w.cells) (st1 fl S b o w) (isOne w)
def stY (fl : Nat) (a x : A) (tm : T XV) (S : St) : Option St := @Option.rec XV (fun _ => Option St) none (fun v => @Option.rec XV (fun _ => Option St) none (fun w => @PO2.rec (fun _ => Option St) none (stV fl w S) (toP v)) (evA x tm)) (evA a tm)
def clY (call yld : CallK) (f : A) (l : List A) (tm : T XV) (S : St) : Option (XV × St) := @Option.rec (List XV) (fun _ => Option (XV × St)) none (fun args => @Option.rec XV (fun _ => Option (XV × St)) none (fun f => ycall call yld f args S) (evA f tm)) (evsA l tm)
/-- A guard's answer: whether the operation is done. -/
def gdB (want : Bool) (v : XV) : Bool := @Option.rec Bool (fun _ => Bool) false (fun b => b == want) (toB v)
def gdY (C : Ctx) (t : A) (want : Bool) (d : D) (tm : T XV) (S : St) : Option XV := @Option.rec XV (fun _ => Option XV) none (fun v => @Bool.rec (fun _ => Option XV) (some (.tup [])) (valD d C tm S) (gdB want v)) (evA t tm)
def newY (S : St) (cs : List XV) : St := ⟨S.hp.set (some (.cells ⟨cs, 0, 0, false, 0⟩)) S.nx, Nat.succ S.nx⟩
def bxY (x : A) (tm : T XV) (S : St) : Option (XV × St) := @Option.rec XV (fun _ => Option (XV × St)) none (fun v => @Option.rec (List XV) (fun _ => Option (XV × St)) none (fun cs => some (.ptr S.nx 0, newY S cs)) v.cells) (evA x tm)
/-- What stays the same in a body. -/
structure YE where
  C : Ctx
  call : CallK
  yld : CallK
  lim : Nat
  ro : Option Nat
  n : Nat
def yop : DI → YE → List Oper → YK → YK := @DI.rec (fun _ => YE → List Oper → YK → YK)
  (fun p d E _ ih tm mk S => retQ p ih tm mk S (valD d E.C tm S))
  (fun t want p d E _ ih tm mk S => retQ p ih tm mk S (gdY E.C t want d tm S))
  (fun a x E _ ih tm mk S => retS ih tm mk (stY E.C.fl a x tm S))
  (fun p f l E _ ih tm mk S => retY p ih tm mk (clY E.call E.yld f l tm S))
  (fun p z _ _ ih tm mk S => ih (setW p (.ptr S.nx 0) tm) mk (newY S z))
  (fun p x _ _ ih tm mk S => retY p ih tm mk (bxY x tm S))
  (fun o E all ih => yslow E.C E.call E.yld E.n all o ih)
def decR (C : Ctx) (n : Nat) (all : List Oper) (l : List Oper) : List DI := List.map (decI C n all) l
def yops : List DI → YE → List Oper → YK := @List.rec DI (fun _ => YE → List Oper → YK) (fun _ _ tm mk S => .nrm tm mk S) (fun d _ ih E all => yop d E all (ih E all))
/-- An operation of a drawn region. -/
inductive DJ where
  | d (x : DI)
  | cl (p : W) (f : A) (l : List A)
  | fr (p : W) (i : Nat) (o : Op)
  | sl (i : Nat) (o : Oper)
def decF (n i : Nat) (o : Oper) : DJ := match o.guard, o.dst, isQ o.op, isFresh o.op with
  | none, some t, false, true => match Nat.blt t n with
    | true => .fr (plW (pl t)) i o.op
    | false => .sl i o
  | _, _, _, _ => .sl i o
def decJ (C : Ctx) (n : Nat) (all : List Oper) (i : Nat) (o : Oper) : DJ := match decI C n all o with
  | .q p d => .d (.q p d)
  | .g t w p d => .d (.g t w p d)
  | .st a x => .d (.st a x)
  | .cl p f l => .cl p f l
  | _ => decF n i o
def decJs (C : Ctx) (n : Nat) (all : List Oper) (l : List Oper) : Nat → List DJ := @List.rec Oper (fun _ => Nat → List DJ) (fun _ => []) (fun o _ ih i => decJ C n all i o :: ih (Nat.succ i)) l
def yslowJ (C : Ctx) (call yld : CallK) (n nx : Nat) (all : List Oper) (i : Nat) (o : Oper) (ih : YK) (tm : T XV) (mk : List Nat) (S : St) : YR := match wantedB ⟨n, tm, mk⟩ all o with
  | none => .no
  | some false => ih (Fr.set ⟨n, tm, mk⟩ o.dst (some (.tup []))).tm mk S
  | some true => match isQ o.op, isFresh o.op with
    | true, _ => match xval C ⟨n, tm, mk⟩ S o.op with
      | some v => ih (Fr.set ⟨n, tm, mk⟩ o.dst (some v)).tm mk S
      | none => .no
    | false, true => match freshV C ⟨n, tm, mk⟩ (nx + i) o.op, S.hp.get (nx + i) with
      | some (v, ob), none => ih (Fr.set ⟨n, tm, mk⟩ o.dst (some v)).tm mk ⟨S.hp.set (some ob) (nx + i), S.nx⟩
      | _, _ => .no
    | false, false => match xoper C call yld ⟨n, tm, mk⟩ S o.op with
      | some (v, S') => match namesOk nx S S' all.length with
        | true => ih (Fr.set ⟨n, tm, mk⟩ o.dst (some v)).tm mk S'
        | false => .no
      | none => .no
def frY (C : Ctx) (N : Nat) (o : Op) (tm : T XV) (S : St) : Option (XV × St) := @Option.rec (XV × XO) (fun _ => Option (XV × St)) none (fun r => @Option.rec XO (fun _ => Option (XV × St)) (some (r.1, ⟨S.hp.set (some r.2) N, S.nx⟩)) (fun _ => none) (S.hp.get N)) (freshV C ⟨0, tm, []⟩ N o)
def keepY (nx k : Nat) (S : St) (r : Option (XV × St)) : Option (XV × St) := @Option.rec (XV × St) (fun _ => Option (XV × St)) none (fun r => @Bool.rec (fun _ => Option (XV × St)) none (some (r.1, r.2)) (namesOk nx S r.2 k)) r
def yopJ : DJ → YE → Nat → List Oper → YK → YK := @DJ.rec (fun _ => YE → Nat → List Oper → YK → YK)
  (fun x E _ all ih => yop x E all ih)
  (fun p f l E nx all ih tm mk S => retY p ih tm mk (keepY nx all.length S (clY E.call E.yld f l tm S)))
  (fun p i o E nx _ ih tm mk S => retY p ih tm mk (frY E.C (Nat.add nx i) o tm S))
  (fun i o E nx all ih => yslowJ E.C E.call E.yld E.n nx all i o ih)
def yopsJ : List DJ → YE → Nat → List Oper → YK := @List.rec DJ (fun _ => YE → Nat → List Oper → YK) (fun _ _ _ tm mk S => .nrm tm mk S) (fun d _ ih E nx all => yopJ d E nx all (ih E nx all))
def ydrawS (E : YE) (ops : List Oper) (tm : T XV) (mk : List Nat) (S : St) : YR := match xdraw E.C E.call E.yld ops ⟨E.n, tm, mk⟩ S with
  | some (fr, S) => .nrm fr.tm fr.marks S
  | none => .no
def ydrawF (E : YE) (js : List DJ) (ok : Bool) (ops : List Oper) (tm : T XV) (mk : List Nat) (S : St) : YR := @Bool.rec (fun _ => YR) .no (yopsJ js E S.nx ops tm mk ⟨S.hp, Nat.add S.nx ops.length⟩) ok
/-- A region that draws: once, where its order does not matter. -/
def ydraw (E : YE) (js : List DJ) (ok : Bool) (ops : List Oper) : YK := fun tm mk S => @YR.rec (fun _ => YR) (ydrawS E ops tm mk S) (fun tm mk S => .nrm tm mk S) (fun _ _ _ _ => ydrawS E ops tm mk S) (ydrawF E js ok ops tm mk S)
/-- The parts that hang on types and the number of slots alone are closed terms. -/
def yregP (C : Ctx) (n : Nat) (ops : List Oper) (E : YE) : YK := yops (decR C n ops ops) E ops
def yregD (C : Ctx) (n : Nat) (ops : List Oper) (E : YE) : YK := ydraw E (decJs C n ops ops 0) (ben n ops) ops
def yregion (ops : List Oper) (draw : Bool) (E : YE) : YK := @YE.rec (fun _ => YK) (fun C call yld lim ro n => @Bool.rec (fun _ => YK) (yregP C n ops (YE.mk C call yld lim ro n)) (yregD C n ops (YE.mk C call yld lim ro n)) draw) E
def yno : YK := fun _ _ _ => .no
def thenY (r : YR) (k : YK) : YR := @YR.rec (fun _ => YR) .no k YR.jmp r
def yloop (body : YK) (k : Nat) : YK := @Nat.rec (fun _ => YK) yno (fun _ ih tm mk S => thenY (body tm mk S) ih) k
def yrange (C : Ctx) (call : CallK) (ro : Option Nat) (n : Nat) (g : Operand) (ps : Array Tmp) (as body : Code) : YK := fun tm mk S => match enterX ro ⟨n, tm, mk⟩ S with
  | none => .no
  | some (df, fr', S1) => match Fr.ev C.fl ⟨n, tm, mk⟩ g with
    | some (.fn f first cap) => match call f (first ++ [.yld S1.nx] ++ cap) (S1.new (.loop ⟨.ready, none, n, tm, ps, as, body, df⟩)) with
      | some (_, S2) => match S2.hp.get S1.nx with
        | some (.loop L) => match L.st with
          | .busy => .no
          | _ => match S2.put C.fl S1.nx (.loop { L with st := .exhausted }) with
            | some S3 => match L.pend with
              | none => .nrm tm fr'.marks S3
              | some j => .jmp j tm fr'.marks S3
            | none => .no
        | _ => .no
      | none => .no
    | _ => .no
def condY (c : A) (a b : YK) : YK := fun tm mk S => @Option.rec XV (fun _ => YR) .no (fun v => @Option.rec Bool (fun _ => YR) .no (fun x => @Bool.rec (fun _ => YK) b a x tm mk S) (toB v)) (evA c tm)
def blkJ (id : Nat) : XJ → YK := @XJ.rec (fun _ => YK) (fun e tm mk S => @Bool.rec (fun _ => YR) (.jmp (.exit e) tm mk S) (.nrm tm mk S) (Nat.beq e id)) (fun l tm mk S => .jmp (.goto l) tm mk S) (fun tm mk S => .jmp .ret tm mk S)
def blkY (id : Nat) (r : YR) : YR := @YR.rec (fun _ => YR) .no YR.nrm (blkJ id) r
def scpJ : XJ → YK := @XJ.rec (fun _ => YK) (fun e tm mk S => .jmp (.exit e) tm mk S) (fun _ _ _ _ => .no) (fun tm mk S => .jmp .ret tm mk S)
def scpY (r : YR) : YR := @YR.rec (fun _ => YR) .no YR.nrm scpJ r
def ycode : Code → YE → YK := @Code.rec (fun _ => YE → YK)
  (fun _ tm mk S => .nrm tm mk S)
  (fun _ ops d E => yregion ops.toList d E)
  (fun _ _ iha ihb E tm mk S => thenY (iha E tm mk S) (ihb E))
  (fun c _ _ iha ihb E => @YE.rec (fun _ => YK) (fun C call yld lim ro n => condY (decA C.fl c) (iha (YE.mk C call yld lim ro n)) (ihb (YE.mk C call yld lim ro n))) E)
  (fun id _ ih E tm mk S => blkY id (ih E tm mk S))
  (fun _ ih E => yloop (ih E) E.lim)
  (fun g ps as body _ _ E => yrange E.C E.call E.ro E.n g ps as body)
  (fun id _ tm mk S => .jmp (.exit id) tm mk S)
  (fun _ ih E tm mk S => scpY (ih E tm mk S))
  (fun _ _ tm mk S => .nrm tm mk S)
  (fun _ _ => yno)
  (fun _ tm mk S => .jmp .ret tm mk S)
  (fun _ _ => yno)
def yend (C : Ctx) (fn : Func) (n : Nat) (tm : T XV) (mk : List Nat) (S : St) : Option (XV × St) := match xmarks C.fl mk S with
  | some S => match xresults C fn.results.toList ⟨n, tm, mk⟩ S with
    | some vs => some (tup1 vs, S)
    | none => none
  | none => none
def finJ (C : Ctx) (fn : Func) (n : Nat) : XJ → T XV → List Nat → St → Option (XV × St) := @XJ.rec (fun _ => T XV → List Nat → St → Option (XV × St)) (fun _ _ _ _ => none) (fun _ _ _ _ => none) (yend C fn n)
def yfin (C : Ctx) (fn : Func) (n : Nat) (r : YR) : Option (XV × St) := @YR.rec (fun _ => Option (XV × St)) none (yend C fn n) (finJ C fn n) r
def ybody (C : Ctx) (call yld : CallK) (lim f : Nat) (args : List XV) (S : St) : Option (XV × St) := match C.orc f args S with
  | some v => some (v, S)
  | none => match C.fn f with
    | some fn => match fn.body with
      | some c => Bool.rec (motive := fun _ => Option (XV × St)) (xbody C call yld lim f args S) (yfin C fn fn.ntmps (ycode c (YE.mk C call yld lim none fn.ntmps) (T.ofL args 0 .leaf) [] S)) (Nat.ble args.length fn.ntmps)
      | none => none
    | none => none
def yround (C : Ctx) (call yld : CallK) (lim l : Nat) (args : List XV) (S : St) : Option (XV × St) := match S.hp.get l with
  | some (.loop L) => match Nat.beq args.length L.params.size && L.params.toList.all (fun p => Nat.blt p L.n) with
    | true => match ycode L.assign (YE.mk C call yld lim (some l) L.n) (setPs L.params.toList args L.tm) [] S with
      | .nrm tm mk S1 => match S1.hp.get l with
        | some (.loop L1) => match L1.st with
          | .ready => match S1.put C.fl l (.loop { L1 with st := .busy }) with
            | some S2 => match ycode L.body (YE.mk C call yld lim (some l) L.n) tm mk S2 with
              | .nrm _ mk3 S3 => match S3.hp.get l, mk3 with
                | some (.loop L3), [] => match S3.put C.fl l (.loop { L3 with st := .ready, pend := none }) with
                  | some S4 => some (.bool true, S4)
                  | none => none
                | _, _ => none
              | .jmp j _ mk3 S3 => match S3.hp.get l, mk3 with
                | some (.loop L3), [] => match S3.put C.fl l (.loop { L3 with st := .done, pend := some j }) with
                  | some S4 => some (.bool false, S4)
                  | none => none
                | _, _ => none
              | .no => none
            | none => none
          | _ => none
        | _ => none
      | _ => none
    | false => none
  | _ => none
/-- Calls (true) and rounds (false), so deep. -/
def Y (C : Ctx) (lim : Nat) (k : Nat) : Bool → CallK := @Nat.rec (fun _ => Bool → CallK) (fun _ _ _ _ => none) (fun _ ih b => @Bool.rec (fun _ => CallK) (yround C (ih true) (ih false) lim) (ybody C (ih true) (ih false) lim) b) k
end
end Go.Proofs.YtlibeobmdjeilaaGreatDoor.Ex
namespace Go.Proofs.YtlibeobmdjeilaaGreatDoor.Ex
open Go
section
variable {C : Ctx} {call yld : CallK} {fr : Fr} {S : St}
theorem selF_eq (d : D16) (k : (NB → NA) → A) : selF d k = k (sel d NA) := by cases d <;> rfl
theorem selG_eq (d : D16) (k : (NA → Option XV) → A) : selG d k = k (sel d (Option XV)) := by cases d <;> rfl
theorem plA_eq (p : P16) (tm : T XV) : evA (plA p) tm = T.getP p XV tm := by
  cases p with
  | s a b =>
    show evA (selF a fun f => selG b fun g => .t f g) tm = _
    rw [selF_eq, selG_eq]
    rfl
  | m a b c d => rfl
  | h n => rfl
theorem ev_eq (fl : Nat) (x : Operand) : evA (decA fl x) fr.tm = fr.ev fl x := by
  cases x with
  | tmp t => exact plA_eq (pl t) fr.tm
  | const v => show evA (decV v) fr.tm = xvOf v; unfold decV; cases xvOf v <;> rfl
  | global g => show evA (match Nat.beq g 0 with | true => .c (.ptr 0 0) | false => .no) fr.tm = match Nat.beq g 0 with | true => some (.ptr 0 0) | false => none; cases Nat.beq g 0 <;> rfl
  | func f => rfl
theorem evsA_eq (fl : Nat) : ∀ (l : List Operand), evsA (decL fl l) fr.tm = fr.evs fl l
  | [] => rfl
  | x :: l => by
    show Option.rec (motive := fun _ => Option (List XV)) none (fun v => Option.rec (motive := fun _ => Option (List XV)) none (fun vs => some (v :: vs)) (evsA (decL fl l) fr.tm)) (evA (decA fl x) fr.tm) = _
    rw [ev_eq, evsA_eq fl l]
    simp only [Fr.evs]
    cases fr.ev fl x with
    | none => rfl
    | some v => cases fr.evs fl l <;> rfl
theorem ev_tm (fl : Nat) (n : Nat) (m : List Nat) (x : Operand) : Fr.ev fl ⟨n, fr.tm, m⟩ x = fr.ev fl x := by cases x <;> rfl
theorem evs_tm (fl : Nat) (n : Nat) (m : List Nat) : ∀ (l : List Operand), Fr.evs fl ⟨n, fr.tm, m⟩ l = fr.evs fl l
  | [] => rfl
  | x :: l => by simp only [Fr.evs, ev_tm, evs_tm fl n m l]
theorem evp_tm (fl : Nat) (n : Nat) (m : List Nat) : ∀ (l : List (Nat × Operand)), Fr.evp fl ⟨n, fr.tm, m⟩ l = fr.evp fl l
  | [] => rfl
  | (i, x) :: l => by simp only [Fr.evp, ev_tm, evp_tm fl n m l]
theorem evo_tm (fl : Nat) (n : Nat) (m : List Nat) (x : Option Operand) : Fr.evo fl ⟨n, fr.tm, m⟩ x = fr.evo fl x := by
  cases x with
  | none => rfl
  | some x => simp only [Fr.evo, ev_tm]
theorem xval_tm (n : Nat) (m : List Nat) (o : Op) : xval C ⟨n, fr.tm, m⟩ S o = xval C fr S o := by
  unfold xval
  cases o <;> simp only [ev_tm, evs_tm, evp_tm, evo_tm]
theorem nth_eq : ∀ (l : List XV) (n : Nat), nth l n = l[n]?
  | [], _ => rfl
  | _ :: _, 0 => rfl
  | _ :: l, n + 1 => (nth_eq l n).trans (by simp)
theorem take1 : ∀ (l : List XV) (o : Nat), (match takeL (l.drop o) 1 with | some [v] => some v | _ => none) = l[o]?
  | [], 0 => rfl
  | [], _ + 1 => rfl
  | _ :: l, 0 => by simp [takeL]
  | x :: l, o + 1 => (take1 l o).trans (by simp)
theorem ld1_eq (b o : Nat) : ld1 S b o = match S.load b o 1 with | some [v] => some v | _ => none := by
  unfold ld1 St.load St.blk
  cases S.hp.get b with
  | none => rfl
  | some ob => cases ob with
    | cells B => show nth B.cs o = _; rw [nth_eq]; exact (take1 B.cs o).symm
    | _ => rfl
theorem aggO_eq (l : Option (List XV)) : aggO l = match l with | some l => some (.agg l) | none => none := by cases l <;> rfl
theorem ldn_eq (n b o : Nat) : ldn n S b o = match S.load b o n with | some l => some (.agg l) | none => none := by
  unfold ldn St.load St.blk
  cases S.hp.get b with
  | none => rfl
  | some ob => cases ob with
    | cells B => exact aggO_eq _
    | _ => rfl
theorem kq2_eq (j k : IntKind) : kq2 j k = keq j k := by cases j <;> cases k <;> rfl
theorem lt2_eq (a b : Int) : lt2 a b = ilt a b := by cases a <;> cases b <;> rfl
theorem eq2_eq (a b : Int) : eq2 a b = ieq a b := by cases a <;> cases b <;> rfl
theorem wrapK_eq (k : IntKind) (s : Nat) : wrapK k s = iwrap k (.ofNat s) := by
  cases k <;> first | rfl | skip
  show Bool.rec (motive := fun _ => Int) (IntKind.i64.wrap (.ofNat s)) (.ofNat s) (Nat.blt s 9223372036854775808) = match Nat.blt s 9223372036854775808 with | true => .ofNat s | false => IntKind.i64.wrap (.ofNat s)
  cases Nat.blt s 9223372036854775808 <;> rfl
theorem wrap2_eq (k : IntKind) (n : Int) : wrap2 n k = iwrap k n := by
  cases n with
  | ofNat s => exact wrapK_eq k s
  | negSucc s => cases k <;> rfl
theorem add2_eq (k : IntKind) (a b : Int) : add2 a b k = iwrap k (a + b) := by
  cases a with
  | negSucc a => rfl
  | ofNat a => cases b with
    | negSucc b => rfl
    | ofNat b => exact wrapK_eq k (a + b)
theorem sub2_eq (k : IntKind) (a b : Int) : sub2 a b k = iwrap k (a - b) := by
  cases a with
  | negSucc a => rfl
  | ofNat a => cases b with
    | negSucc b => rfl
    | ofNat b =>
      show Bool.rec (motive := fun _ => Int) (iwrap k (Int.ofNat a - Int.ofNat b)) (wrapK k (a - b)) (Nat.ble b a) = _
      cases h : Nat.ble b a with
      | false => rfl
      | true =>
        show wrapK k (a - b) = iwrap k (Int.ofNat a - Int.ofNat b)
        rw [wrapK_eq]
        congr 1
        exact Int.ofNat_sub (ble_iff.1 h)
theorem bin2_eq {f : BF} {op : BinOp} {t : Nat} (hf : ∀ k a b, xbin C t op (.int k a) (.int k b) = f k a b) (hn : ∀ k a j b, keq k j = false → xbin C t op (.int k a) (.int j b) = none) (x y : XV) : bin2 f (xbin C t op) x y = xbin C t op x y := by
  cases x <;> first | rfl | skip
  cases y <;> first | rfl | skip
  rename_i k a j b
  show Bool.rec (motive := fun _ => Option XV) none (f k a b) (kq2 k j) = _
  rw [kq2_eq]
  cases h : keq k j with
  | false => exact (hn k a j b h).symm
  | true => obtain rfl := keq_eq h; exact (hf k a b).symm
theorem kqs (k : IntKind) : keq k k = true := Nat.beq_refl _
theorem two_eq (f : XV → XV → Option XV) (fl : Nat) (x y : Operand) : two f (decA fl x) (decA fl y) fr.tm = match fr.ev fl x, fr.ev fl y with | some a, some b => f a b | _, _ => none := by
  unfold two
  rw [ev_eq, ev_eq]
  cases fr.ev fl x with
  | none => rfl
  | some a => cases fr.ev fl y <;> rfl
theorem decB_eq (op : BinOp) (t : Nat) (X Y : Operand) : valD (decB op t (decA C.fl X) (decA C.fl Y)) C fr.tm S = match fr.ev C.fl X, fr.ev C.fl Y with | some a, some b => xbin C t op a b | _, _ => none := by
  have key : ∀ f, (∀ a b, f a b = xbin C t op a b) → two f (decA C.fl X) (decA C.fl Y) fr.tm = match fr.ev C.fl X, fr.ev C.fl Y with | some a, some b => xbin C t op a b | _, _ => none := by
    intro f hf
    rw [two_eq]
    cases fr.ev C.fl X with
    | none => rfl
    | some a => cases fr.ev C.fl Y with
      | none => rfl
      | some b => exact hf a b
  cases op
  case add => exact key _ (bin2_eq (f := f_add) (fun k a b => by simp only [xbin, kqs, xint, f_add, add2_eq]) (fun k a j b h => by simp only [xbin, h]))
  case sub => exact key _ (bin2_eq (f := f_sub) (fun k a b => by simp only [xbin, kqs, xint, f_sub, sub2_eq]) (fun k a j b h => by simp only [xbin, h]))
  case eql => exact key _ (bin2_eq (f := f_eql) (fun k a b => by simp only [xbin, kqs, xint, f_eql, eq2_eq]) (fun k a j b h => by simp only [xbin, h]))
  case neq => exact key _ (bin2_eq (f := f_neq) (fun k a b => by simp only [xbin, kqs, xint, f_neq, eq2_eq]) (fun k a j b h => by simp only [xbin, h]))
  case lss => exact key _ (bin2_eq (f := f_lss) (fun k a b => by simp only [xbin, kqs, xint, f_lss, lt2_eq]) (fun k a j b h => by simp only [xbin, h]))
  case leq => exact key _ (bin2_eq (f := f_leq) (fun k a b => by simp only [xbin, kqs, xint, f_leq, lt2_eq]) (fun k a j b h => by simp only [xbin, h]))
  case gtr => exact key _ (bin2_eq (f := f_gtr) (fun k a b => by simp only [xbin, kqs, xint, f_gtr, lt2_eq]) (fun k a j b h => by simp only [xbin, h]))
  case geq => exact key _ (bin2_eq (f := f_geq) (fun k a b => by simp only [xbin, kqs, xint, f_geq, lt2_eq]) (fun k a j b h => by simp only [xbin, h]))
  all_goals exact key _ (fun _ _ => rfl)
theorem onK (f : XV → Option XV) (fl : Nat) (x : Operand) : on1 f (decA fl x) fr.tm = match fr.ev fl x with | some v => f v | none => none := by
  unfold on1
  rw [ev_eq]
  cases fr.ev fl x <;> rfl
theorem valq (o : Op) : valD (.q o) C fr.tm S = xval C fr S o := xval_tm (C := C) (fr := fr) (S := S) 0 [] o
/-- Fields: where they stand. -/
theorem fadOff_some {t f off : Nat} (hf : fadOff C t f = some off) : ∃ i fs fd fi, C.ty t = some i ∧ i.und = .struct fs ∧ fs[f]? = some fd ∧ C.ty fd.type = some fi ∧ Nat.beq fi.size 0 = false ∧ fd.offset = off := by
  unfold fadOff at hf
  cases hi : C.ty t with
  | none => rw [hi] at hf; cases hf
  | some i =>
    rw [hi] at hf; dsimp only at hf
    cases hu : i.und with
    | struct fs =>
      rw [hu] at hf; dsimp only at hf
      cases hj : fs[f]? with
      | none => rw [hj] at hf; cases hf
      | some fd =>
        rw [hj] at hf; dsimp only at hf
        cases hk : C.ty fd.type with
        | none => rw [hk] at hf; cases hf
        | some fi =>
          rw [hk] at hf; dsimp only at hf
          cases hz : Nat.beq fi.size 0 with
          | true => rw [hz] at hf; cases hf
          | false => rw [hz] at hf; cases hf; exact ⟨i, fs, fd, fi, rfl, hu, hj, hk, hz, rfl⟩
    | _ => rw [hu] at hf; cases hf
theorem fl1Off_some {t f : Nat} {p : Nat × Option Nat} (hf : fl1Off C t f = some p) : ∃ i fs fd fi, C.ty t = some i ∧ i.und = .struct fs ∧ fs[f]? = some fd ∧ C.ty fd.type = some fi ∧ p = (fd.offset, match isAg fi.und with | true => some fi.size | false => none) := by
  unfold fl1Off at hf
  cases hi : C.ty t with
  | none => rw [hi] at hf; cases hf
  | some i =>
    rw [hi] at hf; dsimp only at hf
    cases hu : i.und with
    | struct fs =>
      rw [hu] at hf; dsimp only at hf
      cases hj : fs[f]? with
      | none => rw [hj] at hf; cases hf
      | some fd =>
        rw [hj] at hf; dsimp only at hf
        cases hk : C.ty fd.type with
        | none => rw [hk] at hf; cases hf
        | some fi =>
          rw [hk] at hf; dsimp only at hf
          refine ⟨i, fs, fd, fi, rfl, hu, hj, hk, ?_⟩
          cases hz : isAg fi.und <;> rw [hz] at hf <;> cases hf <;> rfl
    | _ => rw [hu] at hf; cases hf
theorem set1L_eq (v : XV) : ∀ (l : List XV) (o : Nat), set1L l v o = setL l o [v]
  | [], _ => by simp only [setL]; rfl
  | x :: l, 0 => by simp only [setL]; rfl
  | x :: l, o + 1 => by
    simp only [setL]
    show consO x (set1L l v o) = _
    rw [set1L_eq v l o]
    cases setL l o [v] <;> rfl
theorem one_cells {v : XV} (h : isOne v = true) : v.cells = some [v] := by
  cases v <;> first | rfl | cases h
theorem evp_evs (fl : Nat) : ∀ (l : List (Nat × Operand)), fr.evp fl l = match fr.evs fl (l.map (·.2)) with | some vs => some ((l.map (·.1)).zip vs) | none => none
  | [] => rfl
  | (i, x) :: l => by
    simp only [Fr.evp, Fr.evs, List.map_cons]
    rw [evp_evs fl l]
    cases fr.ev fl x with
    | none => rfl
    | some v => cases fr.evs fl (l.map (·.2)) <;> rfl
theorem evs_len (fl : Nat) : ∀ {l : List Operand} {vs : List XV}, fr.evs fl l = some vs → vs.length = l.length
  | [], vs, h => by simp only [Fr.evs] at h; cases h; rfl
  | x :: l, vs, h => by
    simp only [Fr.evs] at h
    cases hx : fr.ev fl x with
    | none => rw [hx] at h; cases h
    | some v =>
      rw [hx] at h
      cases hl : fr.evs fl l with
      | none => rw [hl] at h; cases h
      | some ws => rw [hl] at h; cases h; simp [evs_len fl hl]
theorem fillV_eq {fs : Array Field} : ∀ (l : List (Nat × Operand)) {offs : List Nat} {vs : List XV} (z : List XV), offsOf C fs l = some offs → vs.length = l.length → allOne vs = true →
    fillL (fun j => match fs[j]? with
        | some f => (match C.ty f.type with
          | some fi => some (f.offset, fi.size)
          | none => none)
        | none => none) z ((l.map (·.1)).zip vs) = fillV offs vs z
  | [], offs, vs, z, h, hl, _ => by
    simp only [offsOf] at h; cases h
    have : vs = [] := List.eq_nil_of_length_eq_zero hl
    subst this
    rfl
  | p :: l, offs, [], z, _, hl, _ => by simp at hl
  | p :: l, offs, v :: vs, z, h, hl, h1 => by
    simp only [offsOf] at h
    cases hj : fs[p.1]? with
    | none => rw [hj] at h; cases h
    | some f =>
      rw [hj] at h; dsimp only at h
      cases hk : C.ty f.type with
      | none => rw [hk] at h; cases h
      | some fi =>
        rw [hk] at h; dsimp only at h
        cases hs : Nat.beq fi.size 1 with
        | false => rw [hs] at h; cases h
        | true =>
          cases hr : offsOf C fs l with
          | none => rw [hs, hr] at h; cases h
          | some r =>
            rw [hs, hr] at h; cases h
            have hsz := bnot_eq.1 hs
            change Bool.rec (motive := fun _ => Bool) false (allOne vs) (isOne v) = true at h1
            cases ho : isOne v with
            | false => rw [ho] at h1; cases h1
            | true =>
              rw [ho] at h1
              simp only [List.map_cons, List.zip_cons_cons, fillL, hj, hk]
              rw [one_cells ho, hsz]
              show (match setL z f.offset [v] with | some cs => _ | none => none) = Option.rec (motive := fun _ => Option (List XV)) none (fillV r vs) (set1L z v f.offset)
              rw [set1L_eq]
              cases setL z f.offset [v] with
              | none => rfl
              | some cs => exact fillV_eq l cs hr (by simpa using hl) h1
theorem valD_eq (o : Op) : valD (decD C o) C fr.tm S = xval C fr S o := by
  cases o
  case move x => exact ev_eq _ _
  case assign x => exact ev_eq _ _
  case load t a =>
    unfold decD xval
    dsimp only
    cases hi : C.ty t with
    | none =>
      dsimp only
      refine (valq (.load t a)).trans ?_
      unfold xval
      dsimp only
      rw [hi]
    | some i =>
      dsimp only
      cases hg : isAg i.und with
      | true =>
        dsimp only
        refine (onK _ _ _).trans ?_
        cases fr.ev C.fl a with
        | none => rfl
        | some v => cases v <;> first | rfl | (show ldn i.size S _ _ = loadT i S _ _; unfold loadT; rw [hg, ldn_eq] <;> rfl)
      | false =>
        dsimp only
        refine (onK _ _ _).trans ?_
        cases fr.ev C.fl a with
        | none => rfl
        | some v => cases v <;> first | rfl | (show ld1 S _ _ = loadT i S _ _; unfold loadT; rw [hg, ld1_eq] <;> rfl)
  case binOp op t x y u => exact decB_eq op t x y
  case unOp op t x =>
    cases op <;> first | exact valq _ | skip
    refine (onK _ _ _).trans ?_
    unfold xval
    dsimp only
    cases fr.ev C.fl x with
    | none => rfl
    | some v => cases v <;> rfl
  case fieldAddr t x f =>
    unfold decD
    dsimp only
    cases hf : fadOff C t f with
    | none => exact valq _
    | some off =>
      dsimp only
      refine (onK _ _ _).trans ?_
      unfold xval
      dsimp only
      cases fr.ev C.fl x with
      | none => rfl
      | some v =>
        obtain ⟨i, fs, fd, fi, h1, h2, h3, h4, h5, rfl⟩ := fadOff_some hf
        dsimp only
        unfold xfieldAddr
        rw [h1]
        cases v <;> first | rfl | (dsimp only; rw [h2]; dsimp only; rw [h3]; dsimp only; rw [h4]; dsimp only; rw [h5]; rfl)
  case field t x f =>
    unfold decD
    dsimp only
    cases hf : fl1Off C t f with
    | none => exact valq _
    | some p =>
      obtain ⟨i, fs, fd, fi, h1, h2, h3, h4, rfl⟩ := fl1Off_some hf
      cases hz : isAg fi.und with
      | false =>
        dsimp only
        refine (onK _ _ _).trans ?_
        unfold xval
        dsimp only
        cases fr.ev C.fl x with
        | none => rfl
        | some v =>
          dsimp only
          unfold xfield
          rw [h1]
          cases v <;> first | rfl | (dsimp only; rw [h2]; dsimp only; rw [h3]; dsimp only; rw [h4]; dsimp only; unfold partV; rw [hz]; exact nth_eq _ _)
      | true =>
        dsimp only
        refine (onK _ _ _).trans ?_
        unfold xval
        dsimp only
        cases fr.ev C.fl x with
        | none => rfl
        | some v =>
          dsimp only
          unfold xfield
          rw [h1]
          cases v <;> first | rfl | (dsimp only; rw [h2]; dsimp only; rw [h3]; dsimp only; rw [h4]; dsimp only; unfold partV; rw [hz]; exact aggO_eq _)
  case indexAddr t x j =>
    unfold decD
    dsimp only
    cases hf : ixSz C t with
    | none => exact valq _
    | some sz =>
      dsimp only
      refine (two_eq _ _ _ _).trans ?_
      unfold xval
      dsimp only
      cases fr.ev C.fl x with
      | none => rfl
      | some v => cases fr.ev C.fl j with
        | none => rfl
        | some w =>
          dsimp only
          unfold ixSz at hf
          cases hi : C.ty t with
          | none => rw [hi] at hf; cases hf
          | some i =>
            rw [hi] at hf; dsimp only at hf
            cases hu : i.und with
            | slice e =>
              rw [hu] at hf; dsimp only at hf
              cases hk : C.ty e with
              | none => rw [hk] at hf; cases hf
              | some ei =>
                rw [hk] at hf; cases hf
                unfold xindexAddr
                rw [hi]
                cases w <;> first | (cases v <;> rfl) | skip
                rename_i k n
                cases n with
                | negSucc n => cases v <;> rfl
                | ofNat n =>
                  dsimp only
                  rw [hu]
                  cases v <;> first | rfl | skip
                  rename_i b o len c
                  dsimp only
                  rw [hk]
                  show Bool.rec (motive := fun _ => Option XV) none (some (.ptr b (o + n * ei.size))) (Nat.blt n len) = _
                  cases Nat.blt n len <;> rfl
            | _ => rw [hu] at hf; cases hf
  case extract x j =>
    refine (onK _ _ _).trans ?_
    unfold xval
    dsimp only
    cases fr.ev C.fl x with
    | none => rfl
    | some v => cases v <;> first | rfl | exact nth_eq _ _
  case nilCheck x =>
    refine (onK _ _ _).trans ?_
    unfold xval
    dsimp only
    cases fr.ev C.fl x with
    | none => rfl
    | some v => cases v <;> rfl
  case convert s d x =>
    unfold decD
    dsimp only
    cases hf : cvK C s d with
    | none => exact valq _
    | some k =>
      dsimp only
      refine (onK _ _ _).trans ?_
      unfold xval
      dsimp only
      cases fr.ev C.fl x with
      | none => rfl
      | some v =>
        dsimp only
        unfold cvK at hf
        unfold xconv
        cases hi : C.ty s with
        | none => rw [hi] at hf; cases hf
        | some si => cases hj : C.ty d with
          | none => rw [hi, hj] at hf; cases hf
          | some di =>
            rw [hi, hj] at hf
            dsimp only at hf ⊢
            cases hu : si.und <;> cases hw : di.und <;> rw [hu, hw] at hf <;> first | (cases hf; done) | skip
            cases hf
            cases v <;> first | rfl | (show some (XV.int k (wrap2 _ k)) = some (XV.int k (iwrap k _)); rw [wrap2_eq])
  case build t ps =>
    unfold decD
    dsimp only
    cases hf : bldT C t ps.toList with
    | none => exact valq _
    | some r =>
      obtain ⟨offs, z⟩ := r
      dsimp only
      unfold bldT at hf
      cases hi : C.ty t with
      | none => rw [hi] at hf; cases hf
      | some i =>
        rw [hi] at hf; dsimp only at hf
        cases hu : i.und with
        | struct fs =>
          rw [hu] at hf; dsimp only at hf
          cases ho : offsOf C fs ps.toList with
          | none => rw [ho] at hf; cases hf
          | some offs' =>
            rw [ho] at hf; cases hf
            show Option.rec (motive := fun _ => Option XV) none (fun vs => Bool.rec (motive := fun _ => Option XV) (xval C ⟨0, fr.tm, []⟩ S (.build t ps)) (aggO (fillV offs vs i.zero)) (allOne vs)) (evsA (decL C.fl (ps.toList.map (·.2))) fr.tm) = _
            rw [evsA_eq, xval_tm]
            have hx : xval C fr S (.build t ps) = match fr.evp C.fl ps.toList with | some ps => xbuild C t ps | none => none := by unfold xval; rfl
            cases he : fr.evs C.fl (ps.toList.map (·.2)) with
            | none => rw [hx, evp_evs, he]
            | some vs =>
              dsimp only
              cases h1 : allOne vs with
              | false => rfl
              | true =>
                show aggO (fillV offs vs i.zero) = _
                rw [hx, evp_evs, he]
                dsimp only
                unfold xbuild
                rw [hi]
                dsimp only
                rw [hu]
                dsimp only
                rw [← fillV_eq ps.toList i.zero ho (by rw [evs_len C.fl he, List.length_map]) h1]
                exact aggO_eq _
        | _ => rw [hu] at hf; cases hf
  case call c =>
    unfold decD
    dsimp only
    cases hf : lenT C c with
    | none => exact valq _
    | some x =>
      dsimp only
      refine (onK _ _ _).trans ?_
      unfold lenT at hf
      unfold xval
      dsimp only
      split at hf
      · rename_i t l y hc ht ha
        rw [hc, ha]
        cases hi : C.ty t with
        | none => rw [hi] at hf; cases hf
        | some i =>
          rw [hi] at hf; dsimp only at hf
          cases hu : i.und with
          | slice e =>
            rw [hu] at hf; cases hf
            simp only [Fr.evs]
            cases fr.ev C.fl x with
            | none => rfl
            | some v =>
              show lenV v = xbuiltQ C .len c.argTypes.toList [v] S
              rw [ht]
              simp only [xbuiltQ, xlen, hi]
              rw [hu]
              cases v <;> rfl
          | _ => rw [hu] at hf; cases hf
      · cases hf
  all_goals exact valq _
end
end Go.Proofs.YtlibeobmdjeilaaGreatDoor.Ex
