import Derived.Test.YtepacjkacjabbaaGreatDoorYAF
import Derived.Deep.CutBlock
import Derived.Test.YtepacjkacjabbaaGreatDoorYAH
import Derived.StillTailTactics
import Derived.Deep.RegionHeld3
import Derived.BigQuiet
set_option linter.all false
set_option maxRecDepth 10000000
set_option maxHeartbeats 64000000
namespace Go.Proofs.YtepacjkacjabbaaGreatDoor
open Go Go.Maps Go.RowKit
def RG:List ByteArray:=[⟨#[]⟩,⟨#[126]⟩,⟨#[45]⟩,⟨#[43]⟩,⟨#[45]⟩,⟨#[42]⟩,⟨#[47]⟩,⟨#[37]⟩,⟨#[38]⟩,⟨#[124]⟩,⟨#[94]⟩,⟨#[60,60]⟩,⟨#[62,62]⟩,⟨#[61,61]⟩,⟨#[33,61]⟩,⟨#[60]⟩,⟨#[60,61]⟩]
def qp(k:Nat):ByteArray:=RG.getD k ⟨#[]⟩
def qU(k:Nat):Int:=[0,0,0,5,5,6,6,6,2,1,1,4,4,3,3,3,3].getD k 0
def Nv(k:Nat):Value:=gW.getD (k*4+3) undef
theorem Bn{p:Nat->Prop}(k:Nat)(h:k<=16)(h0:p 0)(h1:p 1)(h2:p 2)(h3:p 3)(h4:p 4)(h5:p 5)(h6:p 6)(h7:p 7)(h8:p 8)(h9:p 9)(D:p 10)(O:p 11)(U:p 12)(V:p 13)(ab:p 14)(ad:p 15)(al:p 16):p k:=by
 rcases(show k=0\/k=1\/k=2\/k=3\/k=4\/k=5\/k=6\/k=7\/k=8\/k=9\/k=10\/k=11\/k=12\/k=13\/k=14\/k=15\/k=16 by omega)with rfl|rfl|rfl|rfl|rfl|rfl|rfl|rfl|rfl|rfl|rfl|rfl|rfl|rfl|rfl|rfl|rfl<;>assumption
theorem QL(k:Nat)(h:k<=16):gW[k*4]?=some (.string (qp k)):=by
 refine Bn (p:=λk=>gW[k*4]?=some (.string (qp k))) k h ?_ ?_ ?_ ?_ ?_ ?_ ?_ ?_ ?_ ?_ ?_ ?_ ?_ ?_ ?_ ?_ ?_<;>rfl
theorem G5(k:Nat)(h:k<=16):(qp k).toList.isEmpty=decide (k=0):=by
 refine Bn (p:=λk=>(qp k).toList.isEmpty=decide (k=0)) k h ?_ ?_ ?_ ?_ ?_ ?_ ?_ ?_ ?_ ?_ ?_ ?_ ?_ ?_ ?_ ?_ ?_<;>(rw[ByteArray.toList_eq];rfl)
theorem F5(k:Nat)(h:k<=16)(w:World):(Instr.index 311 (.agg gW) (.int .u8 (k:Int))).run Tryz.prog w=.ok (.agg #[.string (qp k),.int .i64 (qU k),.bool (mF (k:Int)),Nv k]) w:=by
 refine Bn (p:=λk=>(Instr.index 311 (.agg gW) (.int .u8 (k:Int))).run Tryz.prog w=.ok (.agg #[.string (qp k),.int .i64 (qU k),.bool (mF (k:Int)),Nv k]) w) k h ?_ ?_ ?_ ?_ ?_ ?_ ?_ ?_ ?_ ?_ ?_ ?_ ?_ ?_ ?_ ?_ ?_<;>kernel_rfl
theorem QM(k:Nat)(h:k<=16)(w:World):(Instr.field 310 (.agg #[.string (qp k),.int .i64 (qU k),.bool (mF (k:Int)),Nv k]) 1).run Tryz.prog w=.ok (.int .i64 (qU k)) w:=by
 refine Bn (p:=λk=>(Instr.field 310 (.agg #[.string (qp k),.int .i64 (qU k),.bool (mF (k:Int)),Nv k]) 1).run Tryz.prog w=.ok (.int .i64 (qU k)) w) k h ?_ ?_ ?_ ?_ ?_ ?_ ?_ ?_ ?_ ?_ ?_ ?_ ?_ ?_ ?_ ?_ ?_<;>kernel_rfl
theorem Oi(k:Nat)(h:k<=16)(w:World):(Instr.field 310 (.agg #[.string (qp k),.int .i64 (qU k),.bool (mF (k:Int)),Nv k]) 2).run Tryz.prog w=.ok (.bool (mF (k:Int))) w:=by
 refine Bn (p:=λk=>(Instr.field 310 (.agg #[.string (qp k),.int .i64 (qU k),.bool (mF (k:Int)),Nv k]) 2).run Tryz.prog w=.ok (.bool (mF (k:Int))) w) k h ?_ ?_ ?_ ?_ ?_ ?_ ?_ ?_ ?_ ?_ ?_ ?_ ?_ ?_ ?_ ?_ ?_<;>kernel_rfl
theorem Nq(k:Nat)(h:k<=16)(w:World):Calls Tryz.prog 273 #[.int .u8 (k:Int)] w λo w'=>o=.returned (.string (qp k))/\Below w.heap.size w w':=by
 have hb:=jc w (.cells gW 311);have hT:=xC w;have hc:∀D:World,(D.alloc (.cells gW 311)).cell? ⟨D.heap.size,k*4,none⟩=some (.string (qp k)):=λD=>(cell_of_row _ _ _ _ _ _ (heap_alloc_last D _)).trans (QL k h)
 have h0:(0:Int)<=(k:Int):=by omega
 have h1:decide (17<=(k:Int))=false:=az (by omega);have h2:(k:Int)<17:=by omega
 have V:=ae hT;have U:=ae hb;clear hT hb;go_enter Tryz.func273,Tryz.ntmps273
 go_wp2_with fail
 refine V.o.mono ?_;rintro o D ⟨rfl,rfl⟩;have ab:=hc (w.alloc (.cells gW 311));have O:=ae (U.o.alloc U.o.size (.cells gW 311));clear hc;generalize w.alloc (.cells gW 311)=D at *;go_wp2_with(first
  |(refine dY (t:=311) rfl rfl (wJ _) ?_)
  |(refine mi (t:=311) rfl _ _ rfl rfl rfl zY (by kernel_rfl) Hl ?_)
  |fail)
 go_ret
 exact⟨rfl,O.o⟩
theorem Np(k:Nat)(h:17<=k)(h':k<=255)(w:World):Calls Tryz.prog 273 #[.int .u8 (k:Int)] w λo w'=>o=.returned (.string ⟨#[]⟩)/\Below w.heap.size w w':=by
 have hb:=jc w (.cells gW 311);have hT:=xC w;have h0:(0:Int)<=(k:Int):=by omega
 have h1:decide (17<=(k:Int))=true:=aC (by omega);have h2:(k:Int)<256:=by omega
 have U:=ae hT;have O:=ae hb;clear hT hb;go_enter Tryz.func273,Tryz.ntmps273
 go_wp2_with fail
 refine U.o.mono ?_;rintro o V ⟨rfl,rfl⟩;have D:=ae (O.o.alloc O.o.size (.cells gW 311));generalize w.alloc (.cells gW 311)=V at *;go_wp2_with(first
  |(refine dY (t:=311) rfl rfl (wJ _) ?_)
  |(refine mi (t:=311) rfl _ _ rfl rfl rfl zY (by kernel_rfl) Hl ?_)
  |fail)
 go_ret
 exact⟨rfl,D.o⟩
def pJ(k:Nat):ByteArray:=if k<=16 then qp k else⟨#[]⟩
theorem DC(k:Nat)(h:k<=255)(w:World):Calls Tryz.prog 273 #[.int .u8 (k:Int)] w λo w'=>o=.returned (.string (pJ k))/\Below w.heap.size w w':=by
 by_cases hk:k<=16
 .rw[pJ,if_pos hk];exact Nq k hk w
 .rw[pJ,if_neg hk];exact Np k (by omega) h w
theorem uS(k:Nat):(pJ k).toList.isEmpty=!uR (k:Int):=by
 unfold pJ;by_cases hk:k<=16
 .rw[if_pos hk,G5 k hk,uR]
  by_cases D:k=0
  .subst D;rfl
  .rw[az D,aC (by omega:1<=(k:Int)/\(k:Int)<=16)];rfl
 .rw[if_neg hk,uR,az (by omega:¬(1<=(k:Int)/\(k:Int)<=16)),ByteArray.toList_eq];rfl
theorem Qr(k:Nat)(h:k<=255)(w:World):Calls Tryz.prog 281 #[.int .u8 (k:Int)] w λo w'=>o=.returned (.int .i64 (if uR (k:Int)=true then qU k else 0))/\Below w.heap.size w w':=by
 have HN:=ae (DC k h w);have hE:=uS k;cases ho:uR (k:Int)with
 |false =>
  rw[ho]at hE;have V:(pJ k).toList=[]:=by simpa using hE
  generalize pJ k=s at *;go_enter Tryz.func281,Tryz.ntmps281
  go_wp2_with fail
  refine HN.o.mono ?_;rintro o w1 ⟨rfl,D⟩;have O:=ae D;clear D;go_wp2_with fail
  go_ret
  exact⟨by simp,O.o⟩
 |true =>
  rw[ho]at hE;have hk:k<=16:=by have:=dB ho;omega
  have V:(!(pJ k).toList.isEmpty)=true:=by rw[hE];rfl
  simp only[Bool.not_true]at hE;have hT:=λW=>xC W
  have hI:=F5 k hk;have hF:=QM k hk;generalize pJ k=s at *;have HT:=ae hT;clear hT;go_enter Tryz.func281,Tryz.ntmps281
  go_wp2_with fail
  refine HN.o.mono ?_;rintro o w1 ⟨rfl,D⟩;have O:=ae D;clear D;go_wp2_with fail
  refine(HT.o _).mono ?_;rintro o w2 ⟨rfl,rfl⟩;have U:=ae (O.o.alloc O.o.size (.cells gW 311));generalize w1.alloc (.cells gW 311)=w2 at *;go_wp2_with fail
  go_ret
  exact⟨by simp,U.o⟩
theorem K6(k:Nat):decide ((0:Int)<(if uR (k:Int)=true then qU k else 0))=sS (k:Int):=by
 by_cases hk:k<=16
 .refine Bn (p:=λk=>decide ((0:Int)<(if uR (k:Int)=true then qU k else 0))=sS (k:Int)) k hk ?_ ?_ ?_ ?_ ?_ ?_ ?_ ?_ ?_ ?_ ?_ ?_ ?_ ?_ ?_ ?_ ?_<;>rfl
 .rw[uR,az (by omega:¬(1<=(k:Int)/\(k:Int)<=16)),sS,az (by omega:¬(3<=(k:Int)/\(k:Int)<=16))];rfl
theorem Mt(k:Nat)(h:k<=255)(w:World):Calls Tryz.prog 274 #[.int .u8 (k:Int)] w λo w'=>o=.returned (.bool (sS (k:Int)))/\Below w.heap.size w w':=by
 have U:=ae (Qr k h w);have hE:=K6 k;rw[<-hE];clear hE;generalize (if uR (k:Int)=true then qU k else 0)=r at *;go_enter Tryz.func274,Tryz.ntmps274
 go_wp2_with fail
 refine U.o.mono ?_;rintro o V ⟨rfl,D⟩;have O:=ae D;clear D;go_wp2_with fail
 go_ret
 exact⟨rfl,O.o⟩
def U6(w:World)(r:Int)(o:Ending)(w':World):Prop:=∃D:Int,o=.returned (.tuple #[.int .i64 r,.int .i64 D])/\Below w.heap.size w w'
theorem BL(k:Nat)(h:k<=255)(n:Int)(w:World):Calls Tryz.prog 261 #[.int .u8 (k:Int),.int .i64 n] w (U6 w (l8 (k:Int) n)):=by
 have HN:=ae (DC k h w);have hE:=uS k;unfold l8;cases ho:uR (k:Int)with
 |false =>
  rw[ho]at hE;have ab:(pJ k).toList=[]:=by simpa using hE
  generalize pJ k=s at *;go_enter Tryz.func261,Tryz.ntmps261
  go_wp2_with fail
  refine HN.o.mono ?_;rintro o w1 ⟨rfl,D⟩;have O:=ae D;clear D;go_wp2_with fail
  go_returns
  exact⟨_,rfl,O.o⟩
 |true =>
  rw[ho]at hE;have hk:k<=16:=by have:=dB ho;omega
  have ab:(!(pJ k).toList.isEmpty)=true:=by rw[hE];rfl
  simp only[Bool.not_true]at hE;have hM:=λW=>IZ n W
  generalize pJ k=s at *;have V:=ae hM;clear hM;cases hw:ik n with
  |false =>
   have e2:xN n=220:=by simp[xN,hw]
   rw[e2]at V;generalize ug n=mw at *;go_enter Tryz.func261,Tryz.ntmps261
   go_wp2_with fail
   refine HN.o.mono ?_;rintro o w1 ⟨rfl,D⟩;have O:=ae D;clear D;go_wp2_with fail
   refine(V.o _).mono ?_;rintro o w2 ⟨rfl,rfl⟩;go_wp2_with fail
   go_returns
   exact⟨_,rfl,O.o⟩
  |true =>
   have e2:xN n=0:=by simp[xN,hw]
   rw[e2]at V;generalize ug n=mw at *;have hI:=F5 k hk;have hF:=Oi k hk;have hT:=λW=>xC W
   have HT:=ae hT;clear hT;cases ht:mF (k:Int)with
   |false =>
    simp only[ht]at hI hF;go_enter Tryz.func261,Tryz.ntmps261
    go_wp2_with fail
    refine HN.o.mono ?_;rintro o w1 ⟨rfl,D⟩;have O:=ae D;clear D;go_wp2_with fail
    refine(V.o _).mono ?_;rintro o w2 ⟨rfl,rfl⟩;go_wp2_with fail
    refine(HT.o _).mono ?_;rintro o w2 ⟨rfl,rfl⟩;have U:=ae (O.o.alloc O.o.size (.cells gW 311));generalize w1.alloc (.cells gW 311)=w2 at *;go_wp2_with fail
    go_returns
    exact⟨_,rfl,U.o⟩
   |true =>
    simp only[ht]at hI hF;go_enter Tryz.func261,Tryz.ntmps261
    go_wp2_with fail
    refine HN.o.mono ?_;rintro o w1 ⟨rfl,D⟩;have O:=ae D;clear D;go_wp2_with fail
    refine(V.o _).mono ?_;rintro o w2 ⟨rfl,rfl⟩;go_wp2_with fail
    refine(HT.o _).mono ?_;rintro o w2 ⟨rfl,rfl⟩;have U:=ae (O.o.alloc O.o.size (.cells gW 311));generalize w1.alloc (.cells gW 311)=w2 at *;go_wp2_with fail
    go_returns
    exact⟨_,rfl,U.o⟩
def LQ(K:mq)(pm:Option Nat)(E:Env)(n:Int)(over:Bool)(m:Nat)(W0:World)(e:ah):Prop :=
 ∀w,Below m W0 w->m<=w.heap.size->qQ K pm E n over w ->
  Calls Tryz.prog 230 #[.pointer (some ⟨K.q,0,none⟩),e.val] w λo w'=>o=.returned (.int .i64 (fZ K.p E e))/\Below w.heap.size w w'
theorem R9{K:mq}{pm:Option Nat}{E:Env}{n:Int}{over:Bool}{m:Nat}{W0:World}{e:ah}(row:RowOf m W0 e.sp 6 ah.cells e.cu)(IH:∀s∈e.cu,LQ K pm E n over m W0 s)
  (w:World) (hb:Below m W0 w) (hm:m<=w.heap.size) (hk:qQ K pm E n over w) (B1 B0:Nat) (h1:w.heap[B1]?=some (.cells e.cells.toArray 30 (0,0))) (h0:w.heap[B0]?=some (.cells #[.pointer (some ⟨K.q,0,none⟩)] 242 (0,0)))
  (i:Nat) (hi:i<=2) :
  Calls Tryz.prog 260 #[.int .i64 i,.pointer (some ⟨B1,0,none⟩),.pointer (some ⟨B0,0,none⟩)] w λo w'=>o=.returned (.int .i64 (gB K.p E e.cu i))/\Below w.heap.size w w':=by
 simp only[ah.cells,Sp.val]at h1;obtain⟨-,-,-,-,-,c5⟩:=aR h1;have d0:=one_cell h0;have am:=row.few;clear h1 h0;by_cases O:i<e.cu.length
 .obtain⟨b,off,eA,an,D⟩:=(row.below hb).row (by omega)
  have V:gB K.p E e.cu i=fZ K.p E e.cu[i]:=by rw[gB,aX O]
  rw[V];have k0:w.cell? ⟨b,off+i*6,none⟩=some (.int .u8 e.cu[i].bI):=D i O 0 _ rfl;have k1:w.cell? ⟨b,off+i*6+1,none⟩=some (.int .u8 e.cu[i].op):=D i O 1 _ rfl;have k2:w.cell? ⟨b,off+i*6+2,none⟩=some (.int .u32 e.cu[i].bv):=D i O 2 _ rfl;have k3:w.cell? ⟨b,off+i*6+3,none⟩=some (.int .i64 e.cu[i].aS):=D i O 3 _ rfl;have k4:w.cell? ⟨b,off+i*6+4,none⟩=some (.string e.cu[i].aT):=D i O 4 _ rfl;have k5:w.cell? ⟨b,off+i*6+5,none⟩=some (.slice e.cu[i].sp.dO e.cu[i].cu.length e.cu[i].sp.df):=D i O 5 _ rfl;have U:Below w.heap.size w w.drew:=(ag _ _).drew;have hC:=IH _ (ak O) w.drew (hb.trans (U.mono hm)) hm (hk.new U);generalize e.cu[i]=x at *;simp only[ah.val,Sp.val]at hC;have HC:=ae hC;have ab:=ae U;have ao:(0:Int)<=(i:Int):=by omega
  have ap:(i:Int)<(e.cu.length:Int):=by omega
  have al:decide (e.cu.length<=i)=false:=az (by omega);clear D V hC IH row hk hb U;rw[eA]at c5;clear eA;go_enter Tryz.func260,Tryz.ntmps260
  go_wp2
  go_still_tail 6,(by kernel_rfl)
  change wpList _ _ _ _ _ w.drew;go_wp2_with fail
  refine HC.o.mono ?_;rintro o w1 ⟨rfl,ad⟩;go_wp2_with fail
  go_ret
  exact⟨rfl,ab.o.trans ad⟩
 .have V:gB K.p E e.cu i=0:=by rw[gB,List.getElem?_eq_none (by omega)]
  rw[V];have al:decide (e.cu.length<=i)=true:=aC (by omega);clear V IH row hk hb O;go_enter Tryz.func260,Tryz.ntmps260
  go_wp2
  go_ret
  exact⟨rfl,ag _ _⟩
theorem nH{K:mq}{pm:Option Nat}{E:Env}{n:Int}{over:Bool}{m:Nat}{W0:World}{e:ah}(h:mM m W0 e):LQ K pm E n over m W0 e:=by
 induction h with
 |mk e kk oo vv wd nm row cu ih =>
  intro w hb hm hk;have bk:=jR K.p E e;have be:Below w.heap.size w ((w.alloc (.cells #[.pointer (some ⟨K.q,0,none⟩)] 242)).alloc (.cells #[.int .u8 e.bI,.int .u8 e.op,.int .u32 e.bv,.int .i64 e.aS,.string e.aT,.slice e.sp.dO e.cu.length e.sp.df] 30)):=((ag _ _).alloc (af _) _).alloc (by simp) _;have a6:=gM (w.alloc (.cells #[.pointer (some ⟨K.q,0,none⟩)] 242)) (.cells #[.int .u8 e.bI,.int .u8 e.op,.int .u32 e.bv,.int .i64 e.aS,.string e.aT,.slice e.sp.dO e.cu.length e.sp.df] 30);rw[di]at a6;have bd:=(eZ (w.alloc (.cells #[.pointer (some ⟨K.q,0,none⟩)] 242)) (.cells #[.int .u8 e.bI,.int .u8 e.op,.int .u32 e.bv,.int .i64 e.aS,.string e.aT,.slice e.sp.dO e.cu.length e.sp.df] 30) w.heap.size (by simp)).trans (gM w _);have bj:((w.alloc (.cells #[.pointer (some ⟨K.q,0,none⟩)] 242)).alloc (.cells #[.int .u8 e.bI,.int .u8 e.op,.int .u32 e.bv,.int .i64 e.aS,.string e.aT,.slice e.sp.dO e.cu.length e.sp.df] 30)).heap.size=w.heap.size+2:=by simp
  have V:=ae a6;have aE:=ae bd;have a5:=ae be;have br:=ae bj;have bo:=ae ih;have ba:=ae row;have bt:=ae bk;have HK:=ae hk;have HB:=ae hb;clear a6 bd be bj ih row cu bk hk hb;simp only[ah.val,Sp.val];go_enter Tryz.func230,Tryz.ntmps230
  go_upto_region 1 with (fail)
  generalize (w.alloc (.cells #[.pointer (some ⟨K.q,0,none⟩)] 242)).alloc (.cells e.r 30)=O at *;have bi:=HK.o.new a5.o;have bh:Below m W0 O:=HB.o.trans (a5.o.mono hm);have an:w.heap.size+1<O.heap.size:=by have:=br.o;omega
  obtain⟨c0,c1,c2,c3,c4,c5⟩:=aR V.o;have d0:=one_cell aE.o;have a1:=ae bi;have bm:=ae bh;clear bi bh;have a4:=a1.o.c1;have a3:=ae oo;clear oo kk vv wd;have bc:∀(r:Int) (o:Ending) (w':World),iW K.p E e.bI e.op e.aS e.aT (gB K.p E e.cu 0) (gB K.p E e.cu 1)=r->o=.returned (.int .i64 (Db r))->Below O.heap.size O w'->o=.returned (.int .i64 (fZ K.p E e))/\Below w.heap.size w w' :=
   λr o w' h1 h2 h3=>⟨by rw[bt.o,h1];exact h2,a5.o.trans (h3.mono (by omega))⟩
  have U:=ae bc;have al:Hid (∀(i:Nat) (W:World),i<=2->Below O.heap.size O W->Calls Tryz.prog 260 #[.int .i64 i,.pointer (some ⟨w.heap.size+1,0,none⟩),.pointer (some ⟨w.heap.size,0,none⟩)] W λo w'=>o=.returned (.int .i64 (gB K.p E e.cu i))/\Below W.heap.size W w'):=
   ae λi W hi hW=>R9 ba.o bo.o W (bm.o.trans (hW.mono (by omega))) (by have:=hW.size;omega) (a1.o.new hW) _ _ ((hW.block _ an).trans V.o) ((hW.block _ (by omega)).trans aE.o) i hi
  clear bc;rcases(show e.bI=1\/e.bI=8\/e.bI=2\/e.bI=3\/e.bI=4\/e.bI=5\/e.bI=6\/e.bI=7\/(e.bI≠1/\e.bI≠8/\e.bI≠2/\e.bI≠3/\e.bI≠4/\e.bI≠5/\e.bI≠6/\e.bI≠7) by omega)with D|D|D|D|D|D|D|D|D
  case inl =>
   have hr:iW K.p E e.bI e.op e.aS e.aT (gB K.p E e.cu 0) (gB K.p E e.cu 1)=e.aS:=by rw[D];rfl
   have HR:=ae hr;rw[D]at c0;clear D hr;cases hw:ik e.aS
   all_goals
    have HW:=ae (congrArg (λb:Bool=>if b=true then e.aS else 0) hw);go_wp2_with(go_at_call 254;refine(jJ _ _).mono ?_;rintro o9 w9 ⟨rfl,rfl⟩)
    go_ret
    exact U.o _ _ _ HR.o (congrArg (λx=>Ending.returned (.int .i64 x)) HW.o.symm) (ag _ _)
  case inr.inl =>
   have hr:iW K.p E e.bI e.op e.aS e.aT (gB K.p E e.cu 0) (gB K.p E e.cu 1)=e.aS:=by rw[D];rfl
   have HR:=ae hr;rw[D]at c0;clear D hr;cases hw:ik e.aS
   all_goals
    have HW:=ae (congrArg (λb:Bool=>if b=true then e.aS else 0) hw);go_wp2_with(go_at_call 254;refine(jJ _ _).mono ?_;rintro o9 w9 ⟨rfl,rfl⟩)
    go_ret
    exact U.o _ _ _ HR.o (congrArg (λx=>Ending.returned (.int .i64 x)) HW.o.symm) (ag _ _)
  case inr.inr.inr.inr.inl =>
   have hr:iW K.p E e.bI e.op e.aS e.aT (gB K.p E e.cu 0) (gB K.p E e.cu 1)=K.p.aS:=by rw[D];rfl
   have HR:=ae hr;rw[D]at c0;clear D hr;cases hw:ik K.p.aS
   all_goals
    have HW:=ae (congrArg (λb:Bool=>if b=true then K.p.aS else 0) hw);go_wp2_with(go_at_call 254;refine(jJ _ _).mono ?_;rintro o9 w9 ⟨rfl,rfl⟩)
    go_ret
    exact U.o _ _ _ HR.o (congrArg (λx=>Ending.returned (.int .i64 x)) HW.o.symm) (ag _ _)
  case inr.inr.inr.inr.inr.inr.inr.inl =>
   have hr:iW K.p E e.bI e.op e.aS e.aT (gB K.p E e.cu 0) (gB K.p E e.cu 1)=gB K.p E e.cu 1:=by rw[D];rfl
   have HR:=ae hr;rw[D]at c0;have aw:=ae (al.o 1);clear D hr al;generalize gB K.p E e.cu 1=s1 at *;cases hw:ik s1
   all_goals
    have HW:=ae (congrArg (λb:Bool=>if b=true then s1 else 0) hw);go_wp2_with(first|(go_at_call 254;refine(jJ _ _).mono ?_;rintro o9 w9 ⟨rfl,rfl⟩)|(go_at_call 260;refine(aw.o _ (by omega) (ag _ _)).mono ?_;rintro o8 w8 ⟨rfl,aq⟩;have bl:=ae aq;clear aq)|fail)
    go_ret
    exact U.o _ _ _ HR.o (congrArg (λx=>Ending.returned (.int .i64 x)) HW.o.symm) bl.o
  case inr.inr.inr.inr.inr.inr.inr.inr =>
   have hr:iW K.p E e.bI e.op e.aS e.aT (gB K.p E e.cu 0) (gB K.p E e.cu 1)=0:=by
    unfold iW;rw[if_neg (by omega),if_neg (by omega),if_neg (by omega),if_neg (by omega),if_neg (by omega)]
   have HR:=ae hr;have HW:Hid (0=Db 0):=ae rfl;obtain⟨h1,h8,h2,h3,h4,h5,h6,h7⟩:=D;have g1:(e.bI == 1)=false:=by simpa using h1
   have g2:(e.bI == 2)=false:=by simpa using h2
   have g3:(e.bI == 3)=false:=by simpa using h3
   have g4:(e.bI == 4)=false:=by simpa using h4
   have g5:(e.bI == 5)=false:=by simpa using h5
   have g6:(e.bI == 6)=false:=by simpa using h6
   have g7:(e.bI == 7)=false:=by simpa using h7
   have g8:(e.bI == 8)=false:=by simpa using h8
   have hw:ik 0=false:=rfl;clear h1 h2 h3 h4 h5 h6 h7 h8 hr;go_wp2_with(go_at_call 254;refine(jJ _ _).mono ?_;rintro o9 w9 ⟨rfl,rfl⟩)
   go_ret
   exact U.o _ _ _ HR.o (congrArg (λx=>Ending.returned (.int .i64 x)) HW.o) (ag _ _)
  case inr.inr.inl =>
   have hr:iW K.p E e.bI e.op e.aS e.aT (gB K.p E e.cu 0) (gB K.p E e.cu 1)=if(dJ K.p E e.aT).bI≠0/\((dJ K.p E e.aT).bI=4↔(2:Int)=3) then(dJ K.p E e.aT).aS else 0:=by rw[D];rfl
   have HR:=ae hr;have HF:=ae (zk O a1.o e.aT nm);rw[D]at c0 V;clear D hr al;generalize dJ K.p E e.aT=x at *;obtain⟨xk,xw⟩:=x;simp only at HR HF;go_wp2_with fail
   refine HF.o.mono ?_;rintro o w1 ⟨rfl,ao⟩;have ad:=ae (ao.alloc ao.size (.cells #[.int .u8 xk,.int .i64 xw] 264));obtain⟨bw,-,-,-,-,-⟩:=aR ((ad.o.block _ an).trans V.o);clear ao c0 c1 c2 c3 c4 c5 d0 a4;by_cases ab:xk=0
   .have HZ:Hid ((if xk≠0/\(xk=4↔(2:Int)=3) then xw else 0)=0):=ae (if_neg (by omega))
    have HW:Hid (0=Db 0):=ae rfl;subst ab;have hw:ik 0=false:=rfl;go_wp2_with(go_at_call 254;refine(jJ _ _).mono ?_;rintro o9 w9 ⟨rfl,rfl⟩)
    go_ret
    exact U.o _ _ _ (HR.o.trans HZ.o) (congrArg (λx=>Ending.returned (.int .i64 x)) HW.o) ad.o
   .have g0:(xk == 0)=false:=by simpa using ab
    have b0:(xk != 0)=true:=by simpa using ab
    by_cases ap:xk=4
    .have HZ:Hid ((if xk≠0/\(xk=4↔(2:Int)=3) then xw else 0)=0):=ae (if_neg (by omega))
     subst ap;clear ab;have HW:Hid (0=Db 0):=ae rfl;have hw:ik 0=false:=rfl;go_wp2_with(go_at_call 254;refine(jJ _ _).mono ?_;rintro o9 w9 ⟨rfl,rfl⟩)
     go_ret
     exact U.o _ _ _ (HR.o.trans HZ.o) (congrArg (λx=>Ending.returned (.int .i64 x)) HW.o) ad.o
    .have HZ:Hid ((if xk≠0/\(xk=4↔(2:Int)=3) then xw else 0)=xw):=ae (if_pos (by omega))
     have g4:(xk == 4)=false:=by simpa using ap
     clear ab ap;cases hw:ik xw
     all_goals
      have HW:=ae (congrArg (λb:Bool=>if b=true then xw else 0) hw);go_wp2_with(go_at_call 254;refine(jJ _ _).mono ?_;rintro o9 w9 ⟨rfl,rfl⟩)
      go_ret
      exact U.o _ _ _ (HR.o.trans HZ.o) (congrArg (λx=>Ending.returned (.int .i64 x)) HW.o.symm) ad.o
  case inr.inr.inr.inl =>
   have hr:iW K.p E e.bI e.op e.aS e.aT (gB K.p E e.cu 0) (gB K.p E e.cu 1)=if(dJ K.p E e.aT).bI≠0/\((dJ K.p E e.aT).bI=4↔(3:Int)=3) then(dJ K.p E e.aT).aS else 0:=by rw[D];rfl
   have HR:=ae hr;have HF:=ae (zk O a1.o e.aT nm);rw[D]at c0 V;clear D hr al;generalize dJ K.p E e.aT=x at *;obtain⟨xk,xw⟩:=x;simp only at HR HF;go_wp2_with fail
   refine HF.o.mono ?_;rintro o w1 ⟨rfl,ao⟩;have ad:=ae (ao.alloc ao.size (.cells #[.int .u8 xk,.int .i64 xw] 264));obtain⟨bw,-,-,-,-,-⟩:=aR ((ad.o.block _ an).trans V.o);clear ao c0 c1 c2 c3 c4 c5 d0 a4;by_cases ab:xk=0
   .have HZ:Hid ((if xk≠0/\(xk=4↔(3:Int)=3) then xw else 0)=0):=ae (if_neg (by omega))
    have HW:Hid (0=Db 0):=ae rfl;subst ab;have hw:ik 0=false:=rfl;go_wp2_with(go_at_call 254;refine(jJ _ _).mono ?_;rintro o9 w9 ⟨rfl,rfl⟩)
    go_ret
    exact U.o _ _ _ (HR.o.trans HZ.o) (congrArg (λx=>Ending.returned (.int .i64 x)) HW.o) ad.o
   .have g0:(xk == 0)=false:=by simpa using ab
    have b0:(xk != 0)=true:=by simpa using ab
    by_cases ap:xk=4
    .have HZ:Hid ((if xk≠0/\(xk=4↔(3:Int)=3) then xw else 0)=xw):=ae (if_pos (by omega))
     subst ap;clear ab;cases hw:ik xw
     all_goals
      have HW:=ae (congrArg (λb:Bool=>if b=true then xw else 0) hw);go_wp2_with(go_at_call 254;refine(jJ _ _).mono ?_;rintro o9 w9 ⟨rfl,rfl⟩)
      go_ret
      exact U.o _ _ _ (HR.o.trans HZ.o) (congrArg (λx=>Ending.returned (.int .i64 x)) HW.o.symm) ad.o
    .have HZ:Hid ((if xk≠0/\(xk=4↔(3:Int)=3) then xw else 0)=0):=ae (if_neg (by omega))
     have g4:(xk == 4)=false:=by simpa using ap
     clear ab ap;have HW:Hid (0=Db 0):=ae rfl;have hw:ik 0=false:=rfl;go_wp2_with(go_at_call 254;refine(jJ _ _).mono ?_;rintro o9 w9 ⟨rfl,rfl⟩)
     go_ret
     exact U.o _ _ _ (HR.o.trans HZ.o) (congrArg (λx=>Ending.returned (.int .i64 x)) HW.o) ad.o
  case inr.inr.inr.inr.inr.inl =>
   have hr:iW K.p E e.bI e.op e.aS e.aT (gB K.p E e.cu 0) (gB K.p E e.cu 1)=l8 e.op (gB K.p E e.cu 0):=by rw[D];rfl
   obtain⟨k,hk⟩:∃k:Nat,e.op=(k:Int):=⟨e.op.toNat,by have:=a3.o;omega⟩;have a9:k<=255:=by have:=a3.o;omega
   have aw:=ae (al.o 0);have HO:=ae (λW=>BL k a9 (gB K.p E e.cu 0) W);have HR:=ae (hr.trans (by rw[hk]:l8 e.op (gB K.p E e.cu 0)=l8 (k:Int) (gB K.p E e.cu 0)));rw[hk]at c1 V;rw[D]at c0 V;have ar:Hid (∀W,Below O.heap.size O W->W.cell? ⟨w.heap.size+1,1,none⟩=some (.int .u8 (k:Int))):=ae λW hW=>by
    obtain⟨-,h,-,-,-,-⟩:=aR ((hW.block _ an).trans V.o);exact h
   clear D hr al hk c2 c3 c4 c5 d0 a4;generalize gB K.p E e.cu 0=s0 at *;generalize l8 (k:Int) s0=r at *;have b1:Below O.heap.size O O.drew:=(ag _ _).drew;cases hw:ik r
   all_goals
    have HW:=ae (congrArg (λb:Bool=>if b=true then r else 0) hw);go_wp2_with fail
    go_region_held3(λw'=>w'.cell? ⟨w.heap.size+1,1,none⟩=some (.int .u8 (k:Int))/\Below O.heap.size O w') (simp[*])
     (first
      |(go_at_call 260;refine(aw.o _ (by omega) (by assumption)).mono ?_;rintro o8 w8 ⟨rfl,aq⟩;have a8:=Below.trans (by assumption:Below O.heap.size O _) (aq.mono (Below.size (by assumption)));have z1:=ar.o _ a8)
      |(go_at_call 261;refine(HO.o _).mono ?_;rintro o7 w7 ⟨er,rfl,a7⟩;have am:=Below.trans (by assumption:Below O.heap.size O _) (a7.mono (Below.size (by assumption)));have z2:=ar.o _ am)
      |fail)
    go_wp2_with(go_at_call 254;refine(jJ _ _).mono ?_;rintro o9 w9 ⟨rfl,rfl⟩)
    go_ret
    exact U.o _ _ _ HR.o (congrArg (λx=>Ending.returned (.int .i64 x)) HW.o.symm) am
  case inr.inr.inr.inr.inr.inr.inl =>
   have hr:iW K.p E e.bI e.op e.aS e.aT (gB K.p E e.cu 0) (gB K.p E e.cu 1)=l8 e.op (gB K.p E e.cu 0):=by rw[D];rfl
   obtain⟨k,hk⟩:∃k:Nat,e.op=(k:Int):=⟨e.op.toNat,by have:=a3.o;omega⟩;have a9:k<=255:=by have:=a3.o;omega
   have aw:=ae (al.o 0);have HO:=ae (λW=>BL k a9 (gB K.p E e.cu 0) W);have HR:=ae (hr.trans (by rw[hk]:l8 e.op (gB K.p E e.cu 0)=l8 (k:Int) (gB K.p E e.cu 0)));rw[hk]at c1 V;rw[D]at c0 V;have ar:Hid (∀W,Below O.heap.size O W->W.cell? ⟨w.heap.size+1,1,none⟩=some (.int .u8 (k:Int))):=ae λW hW=>by
    obtain⟨-,h,-,-,-,-⟩:=aR ((hW.block _ an).trans V.o);exact h
   clear D hr al hk c2 c3 c4 c5 d0 a4;generalize gB K.p E e.cu 0=s0 at *;generalize l8 (k:Int) s0=r at *;have b1:Below O.heap.size O O.drew:=(ag _ _).drew;cases hw:ik r
   all_goals
    have HW:=ae (congrArg (λb:Bool=>if b=true then r else 0) hw);go_wp2_with fail
    go_region_held3(λw'=>w'.cell? ⟨w.heap.size+1,1,none⟩=some (.int .u8 (k:Int))/\Below O.heap.size O w') (simp[*])
     (first
      |(go_at_call 260;refine(aw.o _ (by omega) (by assumption)).mono ?_;rintro o8 w8 ⟨rfl,aq⟩;have a8:=Below.trans (by assumption:Below O.heap.size O _) (aq.mono (Below.size (by assumption)));have z1:=ar.o _ a8)
      |(go_at_call 261;refine(HO.o _).mono ?_;rintro o7 w7 ⟨er,rfl,a7⟩;have am:=Below.trans (by assumption:Below O.heap.size O _) (a7.mono (Below.size (by assumption)));have z2:=ar.o _ am)
      |fail)
    go_wp2_with(go_at_call 254;refine(jJ _ _).mono ?_;rintro o9 w9 ⟨rfl,rfl⟩)
    go_ret
    exact U.o _ _ _ HR.o (congrArg (λx=>Ending.returned (.int .i64 x)) HW.o.symm) am
theorem EX(s:ByteArray):s.toList.isEmpty=decide (s=ByteArray.empty):=by
 rw[ByteArray.toList_eq];by_cases h:s=ByteArray.empty
 .subst h;rfl
 .rw[az h]
  cases hs:s.data.toList with
  |nil =>
   refine absurd ?_ h;have:s.data=#[]:=Array.toList_inj.1 hs;cases s
   simp at this;rw[this];rfl
  |cons a l=>rfl
theorem oh{a b:Bool}(h:a=b):Ending.returned (.bool a)=.returned (.bool b):=by rw[h]
theorem jl{B:Nat}{a w:World}(h:Below B a w)(n:Nat):Below B a (w.drewN n):=h.trans ⟨rfl,rfl,rfl,af _,λ_ _=>rfl⟩
def Bf(k op v wd:Int)(D:Bool)(n:Int):Bool :=
 if k=1 then(decide (op=0) && D && decide (n=0))
 else if k=2 then(decide (op=0) && decide (v=0) && decide (wd=0) && decide (n=0))
 else if k=3 then(decide (op=0) && decide (v=0) && decide (wd=0) && decide (n=1))
 else if k=4 then(decide (op=0) && decide (v=0) && decide (wd=0) && D && decide (n=1))
 else if k=5 then(uR op && !sS op && decide (v=0) && decide (wd=0) && D && decide (n=1))
 else if k=6 then(sS op && decide (v=0) && decide (wd=0) && D && decide (n=2))
 else if k=7 then(decide (op=0) && decide (v=0) && decide (wd=0) && D && decide (n=3))
 else if k=8 then(decide (op=0) && decide (v=0) && D && decide (n=1))
 else false
theorem N7(e:ah):pO e=Bf e.bI e.op e.bv e.aS e.aT.toList.isEmpty e.cu.length:=by
 unfold pO Bf;rw[EX];have D:∀c:Nat,((e.cu.length:Int)=(c:Int))↔e.cu.length=c:=λc=>by omega
 have O:=D 3
 repeat' split
 all_goals first|rfl|(apply Bool.eq_iff_iff.2;simp[and_assoc];done)|(apply Bool.eq_iff_iff.2;simp[and_assoc];intros;omega)
theorem N8(w:World)(e:ah)(oo:0<=e.op/\e.op<=255)(kk:0<=e.bI/\e.bI<=255)(hl:e.cu.length<=4398046511104):Calls Tryz.prog 258 #[e.val] w λo w'=>o=.returned (.bool (pO e))/\Below w.heap.size w w':=by
 rw[N7];simp only[ah.val,Sp.val];generalize e.cu.length=ln at *;have ar:(0:Int)<=(ln:Int):=by omega
 generalize e.aT=nm at *;generalize e.sp=sp at *;generalize e.bI=k at *;generalize e.op=op at *;generalize e.bv=v at *;generalize e.aS=wd at *;have hsh:Bf k op v wd nm.toList.isEmpty ln=Bf k op v wd nm.toList.isEmpty ln:=rfl
 conv at hsh=>rhs;unfold Bf
 generalize Bf k op v wd nm.toList.isEmpty ln=ap at *;have U:=ae hsh;clear hsh;have ao:=jc w (.cells #[.int .u8 k,.int .u8 op,.int .u32 v,.int .i64 wd,.string nm,.slice sp.dO ln sp.df] 30);have hB:=gM w (.cells #[.int .u8 k,.int .u8 op,.int .u32 v,.int .i64 wd,.string nm,.slice sp.dO ln sp.df] 30);have O:=ae ao;have HB:=ae hB;clear ao hB;go_enter Tryz.func258,Tryz.ntmps258
 go_upto_region 1 with (fail)
 generalize w.alloc (.cells #[.int .u8 k,.int .u8 op,.int .u32 v,.int .i64 wd,.string nm,.slice sp.dO ln sp.df] 30)=W2 at *;obtain⟨c0,c1,c2,c3,c4,c5⟩:=aR HB.o
 go_quiet (fail)
 rcases(show k=1\/k=8\/k=2\/k=3\/k=4\/k=5\/k=6\/k=7\/(k≠1/\k≠8/\k≠2/\k≠3/\k≠4/\k≠5/\k≠6/\k≠7) by omega)with D|D|D|D|D|D|D|D|D
 case inl =>
  subst D
  go_wp2
  all_goals(go_ret;exact⟨oh (by rw[U.o];simp_all<;>(apply Bool.eq_iff_iff.2;simp only[fT,aU];try omega)),jl O.o _⟩)
 case inr.inl =>
  subst D
  go_wp2
  all_goals(go_ret;exact⟨oh (by rw[U.o];simp_all<;>(apply Bool.eq_iff_iff.2;simp only[fT,aU];try omega)),jl O.o _⟩)
 case inr.inr.inl =>
  subst D
  go_wp2
  all_goals(go_ret;exact⟨oh (by rw[U.o];simp_all<;>(apply Bool.eq_iff_iff.2;simp only[fT,aU];try omega)),jl O.o _⟩)
 case inr.inr.inr.inl =>
  subst D
  go_wp2
  all_goals(go_ret;exact⟨oh (by rw[U.o];simp_all<;>(apply Bool.eq_iff_iff.2;simp only[fT,aU];try omega)),jl O.o _⟩)
 case inr.inr.inr.inr.inl =>
  subst D
  go_wp2
  all_goals(go_ret;exact⟨oh (by rw[U.o];simp_all<;>(apply Bool.eq_iff_iff.2;simp only[fT,aU];try omega)),jl O.o _⟩)
 case inr.inr.inr.inr.inr.inr.inr.inl =>
  subst D
  go_wp2
  all_goals(go_ret;exact⟨oh (by rw[U.o];simp_all<;>(apply Bool.eq_iff_iff.2;simp only[fT,aU];try omega)),jl O.o _⟩)
 case inr.inr.inr.inr.inr.inr.inr.inr =>
  obtain⟨h1,h8,h2,h3,h4,h5,h6,h7⟩:=D;have g1:(k == 1)=false:=by simpa using h1
  have g2:(k == 2)=false:=by simpa using h2
  have g3:(k == 3)=false:=by simpa using h3
  have g4:(k == 4)=false:=by simpa using h4
  have g5:(k == 5)=false:=by simpa using h5
  have g6:(k == 6)=false:=by simpa using h6
  have g7:(k == 7)=false:=by simpa using h7
  have g8:(k == 8)=false:=by simpa using h8
  have an:ap=false:=by rw[U.o];simp[*]
  clear h1 h2 h3 h4 h5 h6 h7 h8;subst an
  go_wp2
  go_ret
  exact⟨rfl,jl O.o _⟩
 case inr.inr.inr.inr.inr.inl =>
  subst D;obtain⟨ko,hk⟩:∃ko:Nat,op=(ko:Int):=⟨op.toNat,by omega⟩;subst hk;have HN:=ae (λW=>DC ko (by omega) W);have HT:=ae (λW=>Mt ko (by omega) W);have hE:=uS ko;generalize pJ ko=s at *;cases ho:uR (ko:Int)with
  |false =>
   rw[ho]at hE;have an:ap=false:=by rw[U.o,ho];rfl
   subst an;simp only[Bool.not_false]at hE;go_wp2_with(first
    |(go_at_call 273;refine(HN.o _).mono ?_;rintro o7 w7 ⟨rfl,al⟩;have V:=ae (Below.trans (jl (ag _ W2) nq) al);obtain⟨_,_,_,_,_,_⟩:=aR ((V.o.block _ (dM HB.o).1).trans HB.o);clear al)
    |fail)
   all_goals(go_ret;exact⟨rfl,O.o.trans (V.o.mono O.o.size)⟩)
  |true =>
   rw[ho]at hE;simp only[Bool.not_true]at hE;have aq:(!s.toList.isEmpty)=true:=by rw[hE];rfl
   cases ht:sS (ko:Int)
   all_goals
    simp only[ht]at HT;have ab:=ae (U.o.trans (by rw[ho,ht]));clear U;go_wp2_with(first
     |(go_at_call 273;refine(HN.o _).mono ?_;rintro o7 w7 ⟨rfl,al⟩;have V:=ae (Below.trans (jl (ag _ W2) nq) al);obtain⟨z0,z1,z2,z3,z4,z5⟩:=aR ((V.o.block _ (dM HB.o).1).trans HB.o);clear al)
     |(go_at_call 274;refine(HT.o _).mono ?_;rintro o8 w8 ⟨rfl,am⟩;have ad:=ae (Below.trans V.o (am.mono V.o.size));obtain⟨y0,y1,y2,y3,y4,y5⟩:=aR ((ad.o.block _ (dM HB.o).1).trans HB.o);clear am z1 z5)
     |fail)
    all_goals(go_ret;exact⟨oh (by rw[ab.o];simp_all<;>(apply Bool.eq_iff_iff.2;simp only[fT,aU];try omega)),O.o.trans (ad.o.mono O.o.size)⟩)
 case inr.inr.inr.inr.inr.inr.inl =>
  subst D;obtain⟨ko,hk⟩:∃ko:Nat,op=(ko:Int):=⟨op.toNat,by omega⟩;subst hk;have HT:=ae (λW=>Mt ko (by omega) W);cases ht:sS (ko:Int)
  all_goals
   simp only[ht]at HT;have ab:=ae (U.o.trans (by rw[ht]));clear U;go_wp2_with(first
    |(go_at_call 274;refine(HT.o _).mono ?_;rintro o8 w8 ⟨rfl,am⟩;have ad:=ae (Below.trans (jl (ag _ W2) nq) am);obtain⟨y0,y1,y2,y3,y4,y5⟩:=aR ((ad.o.block _ (dM HB.o).1).trans HB.o);clear am)
    |fail)
   all_goals(go_ret;exact⟨oh (by rw[ab.o];simp_all<;>(apply Bool.eq_iff_iff.2;simp only[fT,aU];try omega)),O.o.trans (ad.o.mono O.o.size)⟩)
end Go.Proofs.YtepacjkacjabbaaGreatDoor
