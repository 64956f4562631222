/- The nodes that the laws make. -/
import Derived.Test.YthcboallnbaimaaGreatDoorCheckP
namespace Go.Proofs.YthcboallnbaimaaGreatDoor
open Go Go.RowKit
def numE (x w : Int) : ExprV := .mk 1 0 x w ⟨#[]⟩ Sp.none []
def nameE (s : ByteArray) : ExprV := .mk 2 0 0 0 s Sp.none []
def setT (sp : Sp) (s : ByteArray) (e : ExprV) : StmtV := .mk 1 s sp [e] 0 Sp.none [] Sp.none []
def writeT (sp : Sp) (b e : ExprV) : StmtV := .mk 3 ⟨#[]⟩ sp [b, e] 0 Sp.none [] Sp.none []
def callT (sp : Sp) (s : ByteArray) (l : List ExprV) : StmtV := .mk 8 s sp l 0 Sp.none [] Sp.none []
def xB : ByteArray := ⟨#[120]⟩
end Go.Proofs.YthcboallnbaimaaGreatDoor
