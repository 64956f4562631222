import Derived.Maps.RangeWalk
import Derived.Lib.Hide
set_option linter.all false
namespace Go.Proofs.YtepacjkacjabbaaGreatDoor
open Go Go.Maps Go.RowKit
section
structure vM(P:Program)(e:TypeId)(α:Type) where
 val:α->Value
 dat:α->DataW Unit
 read:Value->Option (DataW Unit × List MemPlace)
 put:∀x,read (val x)=some (dat x,[])
 inv:∀v z,read v=some z->∃x,v=val x/\z=(dat x,[])
 inj:∀x y,dat x=dat y->x=y
 zero:α
 zrun:∀w,(zeroValue e).run P w=.ok (val zero) w
structure iZ{P:Program}{e:TypeId}{α:Type}(C:vM P e α)(k:TypeId)(W:World)(b n:Nat)(f:Lit->Option α):Prop where
 ex:∃D:DataW Unit,W.ownsMap P k C.read b n D/\∀l,WideAt.IsKeyLit l->Maps.has D l=(f l).isSome/\∀x,f l=some x->∀z,D.atKey l z=C.dat x
section
variable {P:Program}{e k t:TypeId}{α:Type}{C:vM P e α}{W W':World}{b n:Nat}{f g:Lit->Option α}
theorem iZ.lt(h:iZ C k W b n f):b<W.heap.size:=let⟨_,ho,_⟩:=h.ex;ho.lt
theorem iZ.of_block(h:iZ C k W b n f)(hb:W'.heap[b]?=W.heap[b]?):iZ C k W' b n f:=by
 obtain⟨D,⟨es,O,h1,F,U,V⟩,hD⟩:=h.ex;exact⟨D,⟨es,O,hb.trans h1,F,U,V⟩,hD⟩
theorem iZ.below(h:iZ C k W b n f){B:Nat}(hb:Below B W W')(D:b<B):iZ C k W' b n f:=h.of_block (hb.block b D)
theorem iZ.mono(h:iZ C k W b n f){n':Nat}(U:n<=n'):iZ C k W b n' f:=by
 obtain⟨D,V,O⟩:=h.ex;exact⟨D,V.mono U,O⟩
theorem iZ.congr(h:iZ C k W b n f)(O:∀l,WideAt.IsKeyLit l->f l=g l):iZ C k W b n g:=by
 obtain⟨D,V,U⟩:=h.ex;exact⟨D,V,λl hl=>by rw[<-O l hl];exact U l hl⟩
theorem iZ.made(C:vM P e α)(k:TypeId)(W:World):iZ C k (W.alloc (.map #[] 0)) W.heap.size 0 (λ_=>none):=
 ⟨_,World.ownsMap_made W P k C.read,λl _=>⟨rfl,λx hx=>by cases hx⟩⟩
theorem iZ.obj(h:iZ C k W b n f):∃es O,W.heap[b]?=some (.map es O):=by
 obtain⟨D,⟨es,O,h1,_⟩,_⟩:=h.ex;exact⟨es,O,h1⟩
theorem iZ.look_ok(h:iZ C k W b n f)(K:Keyed P k)(ht:P.underlying t=some (.map k e)){key:Value}{kl:Lit}(U:keyOf P k key=some kl) :
  (Instr.lookup t (.map (some b)) key true).run P W=.ok (.tuple #[C.val ((f kl).getD C.zero),.bool (f kl).isSome]) W:=by
 obtain⟨D,ho,hD⟩:=h.ex;obtain⟨h1,h2⟩:=hD kl (K.key U);obtain⟨v,ps,V,hv⟩:=ho.look_ok K ht (C.zrun W) (C.put C.zero) U;rw[h1]at V;rw[V];obtain⟨x,rfl,hx⟩:=C.inv _ _ hv;have O:=(Prod.mk.injEq _ _ _ _ ▸ hx).1
 suffices x=(f kl).getD C.zero by rw[this]
 cases hf:f kl with
 |none =>
  rw[hf]at h1;rw[Maps.atKey_of_not_has h1]at O;exact(C.inj _ _ O).symm
 |some y =>
  rw[h2 y hf]at O;exact(C.inj _ _ O).symm
theorem iZ.look(h:iZ C k W b n f)(K:Keyed P k)(ht:P.underlying t=some (.map k e)){key:Value}{kl:Lit}(U:keyOf P k key=some kl) :
  (Instr.lookup t (.map (some b)) key false).run P W=.ok (C.val ((f kl).getD C.zero)) W:=by
 obtain⟨D,ho,hD⟩:=h.ex;obtain⟨h1,h2⟩:=hD kl (K.key U);obtain⟨v,ps,V,hv⟩:=ho.lookup K ht (C.zrun W) (C.put C.zero) U;rw[V];obtain⟨x,rfl,hx⟩:=C.inv _ _ hv;have O:=(Prod.mk.injEq _ _ _ _ ▸ hx).1
 suffices x=(f kl).getD C.zero by rw[this]
 cases hf:f kl with
 |none =>
  rw[hf]at h1;rw[Maps.atKey_of_not_has h1]at O;exact(C.inj _ _ O).symm
 |some y =>
  rw[h2 y hf]at O;exact(C.inj _ _ O).symm
theorem iZ.look_nil(C:vM P e α)(W:World)(K:Keyed P k)(ht:P.underlying t=some (.map k e)){key:Value}{O:Lit}(D:keyOf P k key=some O) :
  (Instr.lookup t (.map none) key true).run P W=.ok (.tuple #[C.val C.zero,.bool false]) W:=by
 have:=Maps.look_nil (w:=W) true K ht (C.zrun W) D
 simpa using this
def Bb(f:Lit->Option α)(D:Lit)(x:α)(l:Lit):Option α:=if l.sameKey D=true then some x else f l
theorem iZ.store(h:iZ C k W b n f)(K:Keyed P k)(ht:P.underlying t=some (.map k e))(hn:n<maxLen){key:Value}{kl:Lit}(U:keyOf P k key=some kl)(x:α) :
  ∃w',(Instr.mapUpdate t (.map (some b)) key (C.val x)).run P W=.ok () w'/\iZ C k w' b (n+1) (Bb f kl x)/\W.mapTurned w' b:=by
 obtain⟨D,ho,hD⟩:=h.ex;have ab:=ho.isMap;have hk:=K.key U;obtain⟨w',al,ad,V⟩:=ho.store K ht hn U (C.put x);refine⟨w',al,⟨_,ad,λl hl=>?_⟩,V⟩;unfold Bb;by_cases O:l=kl
 .subst O
  rw[if_pos (WideAt.sameKey_self hk)];exact⟨Maps.has_put_same ab hk _,λy hy z=>by cases hy;exact Maps.atKey_put_same ab hk _ z⟩
 .rw[if_neg (λh=>O (WideAt.sameKey_eq h))]
  obtain⟨h1,h2⟩:=hD l hl;exact⟨by rw[Maps.has_put_other O,h1],λy hy z=>by rw[Maps.atKey_put_other O];exact h2 y hy z⟩
end
def sM(s:ByteArray):Lit:=.string s.data.toList
def og{α:Type}(g:ByteArray->Option α):Lit->Option α
 |.string cs=>g ⟨cs.toArray⟩
 |_=>none
theorem kR{α:Type}(g:ByteArray->Option α)(s:ByteArray):og g (sM s)=g s:=by
 show g ⟨s.data.toList.toArray⟩=g s;rw[Array.toArray_toList]
theorem QC{s t:ByteArray}(h:sM s=sM t):s=t:=by
 unfold sM at h;have h1:s.data.toList=t.data.toList:=by injection h
 have D:s.data=t.data:=Array.toList_inj.1 h1;cases s;cases t;simp at D;rw[D]
theorem uZ{α:Type}(g:ByteArray->Option α)(s:ByteArray)(x:α):Bb (og g) (sM s) x=og (λt=>if t=s then some x else g t):=by
 funext l
 unfold Bb;by_cases h:l=sM s
 .subst h;rw[if_pos (WideAt.sameKey_self (by trivial)),kR,if_pos rfl]
 .rw[if_neg (λe=>h (WideAt.sameKey_eq e))]
  cases l with
  |string cs =>
   show g ⟨cs.toArray⟩=if(⟨cs.toArray⟩:ByteArray)=s then some x else g ⟨cs.toArray⟩
   rw[if_neg];rintro rfl;exact h (by simp[sM])
  |_=>rfl
def mg{α:Type}(g:Int->Option α):Lit->Option α
 |.int .i64 n=>g n
 |_=>none
theorem uY{α:Type}(g:Int->Option α)(n:Int)(x:α):Bb (mg g) (.int .i64 n) x=mg (λm=>if m=n then some x else g m):=by
 funext l
 unfold Bb;by_cases h:l=.int .i64 n
 .subst h;rw[if_pos (WideAt.sameKey_self (by trivial))];simp[mg]
 .rw[if_neg (λe=>h (WideAt.sameKey_eq e))]
  unfold mg
  split
  .rename_i m
   show g m=if m=n then some x else g m
   rw[if_neg];rintro rfl;exact h rfl
  .rfl
end
end Go.Proofs.YtepacjkacjabbaaGreatDoor
