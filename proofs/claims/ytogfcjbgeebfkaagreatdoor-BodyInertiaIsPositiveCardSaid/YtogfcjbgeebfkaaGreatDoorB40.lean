/-
  Part of the proof of statement 13
-/
import Derived.Test.YtogfcjbgeebfkaaGreatDoorB39
import Derived.Test.YtogfcjbgeebfkaaGreatDoorB07
import Derived.Test.YtogfcjbgeebfkaaGreatDoorRows
import Derived.LaidMore
import Derived.LaidLaws
import Derived.MakeChecks
import Derived.OpenShut
import Derived.Lay
import Derived.ChangeMaps5
import Derived.Deep.DeepHandedRow
set_option linter.unusedSimpArgs false
set_option linter.unusedVariables false
set_option maxRecDepth 100000
set_option maxHeartbeats 16000000
namespace Go.Proofs.YtogfcjbgeebfkaaGreatDoor
open Go Go.Av Go.aH
open Go.ChangeShapes Go.WideShapes Go.ChangeAt Go.RowKit
section
theorem own:ownKnob Tryz.prog.godebug=none:=by kernel_rfl
theorem laidOut:laidOutB Tryz.prog=true:=by kernel_rfl
def oe:List (String×DataW Unit):=Rows.bodyInertiaIsPositiveRow.laid
theorem bNr:Tryz.prog.globalNamed "internal/strconv.uint64pow10" =some 3:=by kernel_rfl
theorem bSm:(Tryz.prog.globals[3]?).map (·.type)=some 343:=by kernel_rfl
def Wm:AV->DataW Unit
 |.int k n=>.lit (.int k n)
 |_=>.nil
theorem bCr:Rows.laid_internal_strconv_uint64pow10=DataW.agg (rX.map Wm):=by kernel_rfl
variable{name:String}{p:List MemPlace}
theorem aMz{W:World}{mo:Bool}{enc:TypeId×Value->Unit}{g:Nat}{cs:Array Value}{base L:Nat}{Q:Nat->Bool}{hd:Bool}(d:Tryz.prog.globalNamed name=some g)(J:W.var? Tryz.prog name=some cs)
 (h:DataW.trod enc Tryz.prog W base Q hd L 343 cs.toList=some (DataW.agg (rX.map Wm),p)):VR (tN mo W) W (.pl rX) (.pointer (some ⟨g,0,none⟩)):=by
 obtain⟨xs,m,_,C,U,b,F⟩:=DataW.trod_array Tryz.underlying343 h;have I:Tryz.prog.cellsOf 149=1:=by kernel_rfl
 simp only[An,DataW.agg.injEq] at C;have V:rX.length=20:=by kernel_rfl
 have key:∀j,j<20->∃n,cs[j]?=some (.int .u64 n)/\rX.getD j aC=.int .u64 n:=by
  intro j Y;have O:=F j Y;rw[I,Df,Ai A0] at O;obtain⟨n,T,o,_⟩:=DataW.trod_int Tryz.underlying149 O;refine⟨n,?_,?_⟩
  . have B:(((cs.toList.drop j).take 1))[0]?=some (.int .u64 n):=by rw[T];rfl
    rw[List.getElem?_take,if_pos A1,List.getElem?_drop] at B;simpa using B
  have Z:(rX.map Wm)[j]?=some (.lit (.int .u64 n)):=by rw[C.1,Dw,Ai A0,o];rfl
  rw[Dw] at Z;rw[List.getD]
  cases D:rX[j]? with
  |none=>rw[D] at Z;cases Z
  |some a=>rw[D] at Z;simp only[Cq,Aj] at Z;cases a<;>simp[Wm] at Z;obtain⟨rfl,rfl⟩:=Z;rfl
 have cell:∀j,W.cell? ⟨g,0+j,none⟩=cs[j]?:=fun j=>by rw[Ds];exact World.var?_cell d J j
 obtain⟨f,N⟩:=Go.Deep.choose_lt (α:=Int) (n:=20) (p:=fun j n=>cs[j]?=some (.int .u64 n)/\rX.getD j aC=.int .u64 n) key;refine .pl rX g 0 (fun j=>.int .u64 (f j)) (fun j Y=>?_) (fun j Y=>?_)
 . rw[V] at Y;have :=N j Y;refine⟨⟨_,(cell j).trans this.1⟩,(cell j).trans this.1,?_⟩;rw[this.2];rfl
 rw[V] at Y;rw[(N j Y).2];exact .int _ _
theorem aNa{W:World}{enc:TypeId×Value->Unit}{g:Nat}{cs:Array Value}{base L:Nat}{Q:Nat->Bool}{hd:Bool}(d:Tryz.prog.globalNamed name=some g)(J:W.var? Tryz.prog name=some cs)
 (h:DataW.trod enc Tryz.prog W base Q hd L 343 cs.toList=some (DataW.agg (rX.map Wm),p)):∃c T fz,W.heap[g]?=some (.cells c T fz)/\c.size=rX.length:=by
 obtain⟨xs,m,_,C,U,b,F⟩:=DataW.trod_array Tryz.underlying343 h;have I:Tryz.prog.cellsOf 343=20:=by kernel_rfl
 have V:rX.length=20:=by kernel_rfl
 unfold World.var? at J;rw[d] at J;simp only[Option.bind_some] at J;split at J
 . rename_i c T fz X;cases J;exact⟨_,_,_,X,by rw[V];rw[I] at U;simpa using U⟩
 cases J
theorem aNm{W:World}(h:laidMetH Tryz.prog oe W):WR lY (tN false W) ⟨0,.nil⟩ W:=by
 rw[MakeChecks.laidMetH_plain _ _ _ (by kernel_rfl)] at h;obtain⟨S,⟨g0,l,f,k,J,p,o,N,Z,O,⟨g,t1,d,u,p1,q1,i,b,K,U,⟨e,t2,c,P,p2,q2,M,a,q,w,_,_⟩,_⟩,_⟩,_,_⟩:=h;obtain rfl:=Aa (bNr.symm.trans M);obtain rfl:=Aa (bSm.symm.trans a);rw[bCr] at w;refine aZf (fun n cs A=>?_) fun n cs A G=>?_;rotate_left
 . have A:Px n=some cs:=A;unfold Px at A;split at A
   . rename_i X;obtain rfl:=Ch X;cases A;exact aNa M q w
   split at A
   . cases A;exact absurd rfl G
   cases A
 have A:Px n=some cs:=A;unfold Px at A;split at A
 . rename_i X;obtain rfl:=Ch X;cases A;exact aMz M q w
 split at A
 . cases A;exact .pl [] n 0 (fun _=>undef) (fun j Y=>absurd Y (Am _)) (fun j Y=>absurd Y (Am _))
 cases A
def ivV:Value->Int
 |.int _ n=>n
 |_=>0
theorem TA:Nd Tryz.prog 8 33=some [3,3,3]:=by kernel_rfl
theorem bEe:Nd Tryz.prog 8 25=some [9,22,3,3,3,3]:=by kernel_rfl
theorem bEf:Nd Tryz.prog 8 65=some [63]:=by kernel_rfl
section
variable {H:Type} {enc:TypeId×Value->H} {W:World} {base:Nat} {hd:Bool}
theorem e8{v:Value}{m:Nat}{y:DataW H×List MemPlace}(mo:Bool)(h:DataW.trod enc Tryz.prog W base (fun _=>true) hd m 63 [v]=some y):∃p:AV×List aH.V,rI p/\VR (tN mo W) W p.1 v:=by
 rcases Vb Tryz.underlying63 TA (fun u B=>by
  have :u=3:=by simpa using B
  subst this;exact Tryz.underlying3) (by kernel_rfl) A1 mo h with rfl|⟨len,f,hl,hw,hv⟩
 . exact⟨(.bG,[]),.inl ⟨rfl,rfl⟩,.bG⟩
 refine⟨(.bK 0 3 (bU ((List.range len).map fun i=>(⟨f (i*3+0),f (i*3+1),f (i*3+2)⟩:aH.V))),(List.range len).map fun i=>⟨f (i*3+0),f (i*3+1),f (i*3+2)⟩),.inr rfl,hv _ ?_ ?_ ?_⟩
 . simp[bU]
 . intro e z;simp only[bU,Be] at z;obtain⟨x,_,rfl⟩:=z;rfl
 rw[show([3,3,3]:List TypeId).length=3 from rfl,<-Qw (fun j=>AV.int .i64 (f j)) 3 len];simp only[bU,Ea];rfl
theorem ey{v:Value}{m:Nat}{y:DataW H×List MemPlace}(mo:Bool)(h:DataW.trod enc Tryz.prog W base (fun _=>true) hd m 22 [v]=some y)(L:∀a len cap,v=.slice (some a) len cap->a.spot=none):
 ∃(pv:AV) (S:List (AV×List aH.V)),AG pv S/\(∀p∈S,rI p)/\S.length<2^63/\VR (tN mo W) W pv v:=by
 rcases Go.Deep.open_slice Tryz.underlying22 h with ⟨h0,_⟩|⟨a,len,cap,mm,n,D,Pl,J,X,U,t,R,rfl,C⟩
 . obtain rfl:v=.slice none 0 0:=by simpa using h0
   exact⟨.bG,[],.inl ⟨rfl,rfl⟩,by simp,by decide,.bG⟩
 obtain rfl:v=.slice (some a) len cap:=by simpa using J
 have M:=L a len cap rfl;obtain⟨b,o,s⟩:=a;simp only at M;subst M;have a6:mm=cap:=by simpa using R
 have I:Tryz.prog.cellsOf 65=1:=by kernel_rfl
 have T:cap<=2^63 -1:=t
 obtain⟨f,N⟩:=Go.Deep.choose_lt (α:=(AV×List aH.V)×Value) (n:=len) (p:=fun j r=>rI r.1/\W.cell? ⟨b,o+j,none⟩=some r.2/\VR (tN mo W) W r.1.1 r.2) (fun j Y=>by
  obtain⟨FY,O,Z⟩:=C j A0;rw[I,Df] at O;obtain⟨_,Q,k⟩:=World.cells?_some O;obtain⟨u,mu,A,B,E⟩:=(AA 8 bEf Z) 0 63 rfl;obtain⟨p,P,c⟩:=e8 mo E;refine⟨(p,u),P,?_,c⟩;have :=k 0 A0;rw[B] at this;rw[<-this,Wg]
  rfl)
 refine⟨.bK 0 1 (ML ((List.range len).map fun j=>(f j).1)),(List.range len).map fun j=>(f j).1,.inr rfl,?_,by simp;omega,?_⟩
 . intro p P;obtain⟨j,Y,rfl⟩:=Be.1 P;exact(N j (Bb.1 Y)).1
 have F:(ML ((List.range len).map fun j=>(f j).1)).length=len:=by simp[ML]
 have i:(ML ((List.range len).map fun j=>(f j).1)).flatten=(List.range len).map fun j=>(f j).1.1:=by
  unfold ML;rw[Ea];generalize List.range len=l
  induction l with
  |nil=>rfl
  |cons x r K=>rw[Bw,Cb,K];rfl
 have d:∀j,j<len->(ML ((List.range len).map fun j=>(f j).1)).flatten.getD j aC=(f j).1.1:=fun j Y=>by rw[i,List.getD,Dw,Ko Y];rfl
 have g:(ML ((List.range len).map fun j=>(f j).1)).flatten.length=len:=by rw[i];simp
 have :=VR.bK (G:=tN mo W) (w:=W) 0 1 (ML ((List.range len).map fun j=>(f j).1)) b o cap (fun j=>(f j).2)
  (fun e z=>by simp only[ML,Be] at z;obtain⟨x,_,rfl⟩:=z;rfl)
  (fun j Y=>by
    rw[g] at Y;obtain⟨q1,q2,q3⟩:=N j Y;refine⟨⟨_,q2⟩,q2,?_⟩;rw[d j Y]
    rcases q1 with ⟨q,_⟩|q<;>rw[q]<;>rfl)
  (fun j Y=>by
    rw[g] at Y;rw[d j Y]
    exact(N j Y).2.2)
  ⟨by rw[F];exact U,trivial⟩
 rw[F] at this;exact this
theorem Vz{G:Gh}{w:World}{cs:List Value}{i:Nat}(h:∃n,cs[i]?=some (.int .i64 n)/\(Lit.int .i64 n).wf=true):VR G w (.int .i64 (ivV (cs.getD i undef))) (cs.getD i undef):=by obtain⟨n,A,_⟩:=h;rw[List.getD,A];exact .int _ _
end
theorem VX{W:World}{base:Nat}{t e:TypeId}{v:Value}(b:Tryz.prog.underlying t=some (.slice e))(h:Cell.okWide Tryz.prog W .any base t v):∀a len cap,v=.slice (some a) len cap->a.spot=none:=by rintro a len cap rfl;simp only[Cell.okWide,Cell.ok,b] at h;exact h.2.2.2.1
theorem aLy:Tryz.prog.cellTypes Tryz.prog.depth 25=some [9,22,3,3,3,3]:=by kernel_rfl
theorem zc{H:Type}{enc:TypeId×Value->H}{W:World}{base b2:Nat}{hd:Bool}{cs:Array Value}{m:Nat}{y:DataW H×List MemPlace}(mo:Bool)(U:cs.toList.length=6)(h:DataW.trod enc Tryz.prog W base (fun _=>true) hd m 25 cs.toList=some y)
 (k:∀(i:Nat) (v:Value),cs[i]?=some v->∃u,([9,22,3,3,3,3]:List TypeId)[i% [9,22,3,3,3,3].length]?=some u/\Cell.okWide Tryz.prog W .any b2 u v):
 ∃(name:List UInt8) (pv:AV) (S:List (AV×List aH.V)) (w o B r1:Int),name.length<2^63/\AG pv S/\(∀p∈S,rI p)/\S.length<2^63/\VR (tN mo W) W (.agg (iQ name pv w o B r1)) (.agg cs):=by
 have R:=AA 8 bEe h;obtain⟨z,s,Z⟩:=il R (i:=0) (u:=9) rfl Tryz.underlying9;obtain⟨D,o,e,K,A⟩:=R 1 22 rfl
 have g:cs[1]?=some D:=by simpa using K
 obtain⟨t,a,b⟩:=k 1 D g;obtain rfl:t=22:=(Aa a).symm;obtain⟨pv,S,I,X,d,f⟩:=ey mo A (VX Tryz.underlying22 b)
 have r:pv.one=true:=by rcases I with ⟨rfl,_⟩|rfl<;>rfl
 refine⟨z.data.toList,pv,S,ivV (cs.toList.getD 2 undef),ivV (cs.toList.getD 3 undef),ivV (cs.toList.getD 4 undef),ivV (cs.toList.getD 5 undef),?_,I,X,d,.agg _ cs.toList U ?_ ?_⟩
 . have :z.data.toList.length=z.size:=Ej;have l:maxLen=2^63 -1:=rfl;omega
 . intro c q;simp only[iQ,Ba,Cn,Fg] at q
   rcases q with rfl|rfl|rfl|rfl|rfl|rfl<;>first|rfl|exact r
 intro j Y
 exact match j,Y with
 |0,_=>by
  have :cs.toList.getD 0 undef=.string z:=by rw[List.getD,s];rfl
  rw[this];exact .str z
 |1,_=>by
  have :cs.toList.getD 1 undef=D:=by rw[List.getD,K];rfl
  rw[this];exact f
 |2,_=>Vz (vQ R (i:=2) (u:=3) rfl Tryz.underlying3)
 |3,_=>Vz (vQ R (i:=3) (u:=3) rfl Tryz.underlying3)
 |4,_=>Vz (vQ R (i:=4) (u:=3) rfl Tryz.underlying3)
 |5,_=>Vz (vQ R (i:=5) (u:=3) rfl Tryz.underlying3)
 |n+6,h=>absurd h (by simp only[iQ,As,Bo];omega)
def bNk:Value:=.agg #[.string ⟨#[]⟩,.slice none 0 0,.int .i64 0,.int .i64 0,.int .i64 0,.int .i64 0]
def bNl:Value:=.int .u8 0
def rdB{H:Type}:DataW H:=.agg [.lit (.string []),.nil,.agg [.lit (.int .i64 0),.lit (.int .i64 0)],.agg [.lit (.int .i64 0),.lit (.int .i64 0)]]
def rdV{H:Type}:DataW H:=.lit (.int .u8 0)
theorem aFz(os:Os)(c:os.Started)(H:Type)(enc:TypeId×Value->H)(F:Stop.Interp):
 ReturnsInHanded {} Tryz.checked os 6 .any ((OpenSpec.ofChange Rows.bodyInertiaIsPositiveSpec).preRow enc Tryz.prog Tryz.f6 Rows.bodyInertiaIsPositiveRow.domain false Rows.bodyInertiaIsPositiveRow.laid) (((OpenSpec.ofChange Rows.bodyInertiaIsPositiveSpec).at F).post enc Tryz.prog Tryz.f6 false true false false):=by
 refine returnsInHanded_of_row (C:=Tryz.checked) (s:=OpenSpec.ofChange Rows.bodyInertiaIsPositiveSpec) own c (by kernel_rfl) Tryz.func6
  ⟨World.laidAll Tryz.prog os oe,fun _ _=>0,⟨#[],#[bNk,bNl],[]⟩,World.laidAll_os _ _ _,World.shaped_of_ZipB (by kernel_rfl) (by kernel_rfl),rfl,(Input.okWide_of_okWideB (by kernel_rfl)).2,
    OpenSpec.preRow_of_cond 8 (x:=([rdB,rdV],[],[])) (by kernel_rfl) (by kernel_rfl) (fun k E=>by cases E) (by kernel_rfl) (by rw[show Rows.bodyInertiaIsPositiveRow.laid=oe from rfl,MakeChecks.laidMetH_plain _ _ _ (by kernel_rfl)];exact laidMet_laidAll _ (by kernel_rfl) (by kernel_rfl)),by
    simp only[Assume.holds]
    exact⟨by simp,by simp,by simp,by simp,by simp⟩⟩ ?_
 intro W base args ds U a7 nh hW _ fI _ f _ _;have f:laidMetH Tryz.prog oe W:=f
 have GH:∀(j:Nat) t v,Tryz.f6.params[j]?=some t->args[j]?=some v->Value.okWide Tryz.prog W .any base t v:=nh
 have a6:=hW;obtain⟨p,q,ae,hV,rfl,mq,TQ⟩:=hW;have hA:DataW.TrodAll enc Tryz.prog W 0 (fun _=>true) true Tryz.f6.params.toList args.toList ds p:=ae;rw[Tryz.params6] at hA GH;obtain⟨N,D,d0,d1,J,p1,rfl,rfl,rfl,G,O⟩:=trodAll_two hA;obtain⟨rfl,rfl⟩:=trodVars_none hV;have k0:=GH 0 25 N rfl rfl;have k1:=GH 1 5 D rfl rfl;simp only[Value.okWide,Tryz.underlying25] at k0;obtain⟨c0,rfl,g,l,ad,_,jY⟩:=k0;obtain rfl:=Aa (aLy.symm.trans ad)
 have ab:Cell.okWide Tryz.prog W .any base 5 D:=by simpa only[Value.okWide,Tryz.underlying5] using k1
 have K:∃k n,D=.int k n:=by cases D<;>simp[Cell.okWide,Cell.ok,Tryz.underlying5] at ab ⊢
 obtain⟨kk,mass,rfl⟩:=K;have ag:=G;have af:=O;obtain⟨A,G⟩:=G;obtain⟨f1,O⟩:=O
 replace G:DataW.trod enc Tryz.prog W 0 (fun _=>true) true A 25 c0.toList=some (d0,J):=G
 replace O:DataW.trod enc Tryz.prog W 0 (fun _=>true) true f1 5 [.int kk mass]=some (d1,p1):=O
 have m:c0.toList.length=6:=by rw[Ej,g];kernel_rfl
 obtain⟨name,pv,S,w,R,B,r1,BS,I,X,vY,P⟩:=zc false m G jY;obtain⟨mm,T,_,L⟩:=DataW.trod_int Tryz.underlying5 O;obtain⟨rfl,rfl⟩:kk=.u8/\mass=mm:=by simpa using T
 simp[Lit.wf,IntKind.min,IntKind.max,IntKind.signed,IntKind.bits] at L
 have hS:=(aFw BS I X vY (mass:=mass) A0 A0 w R B r1 ⟨0,.nil⟩).2 (tN false W) W [.agg c0,.int .u8 mass] (aNm f)
  ⟨rfl,fun j Y=>match j,Y with
    |0,_=>P
    |1,_=>.int _ _
    |n+2,h=>absurd h A3⟩
 refine hS.mono fun e W' ⟨G',L,i,M⟩=>?_
 have z:e=.returned (.bool true):=by
  cases e with
  |returned u=>
   cases M with
   |bool b=>rfl
  |_=>exact M.elim
 subst z
 have same:∀x:MemPlace,x.block<W.heap.size->W.sameAt W' x:=fun x hx=>by
  cases x with
  |cell b o=>have WL:b<W.heap.size:=hx;show W'.cell? ⟨b,o,none⟩=W.cell? ⟨b,o,none⟩;simp only[World.cell?,KV i WL]
  |map b=>exact KV i hx
 have r:∀x∈(J++p1)++[],x.block<W.heap.size:=fun x hx=>by simpa using a6.lt x hx
 have a:∀{Q:Nat->Bool} {t:TypeId} {v:Value} {d:DataW H} {S:List MemPlace},Tryz.prog.readableRec t=true->t<Tryz.prog.types.size->DataW.Trod enc Tryz.prog W 0 (fun _=>true) true t v d S->(∀x∈S,x∈(J++p1)++[])->
  (∀x∈(J++p1)++[],Q x.block=true)->DataW.Trod enc Tryz.prog W' 0 Q true t v d S:=fun V vD h y Z=>
  WideElems.Trod_stays laidOut V vD h (fun x hx=>same x (r x (y x hx))) fun x hx=>Z x (y x hx)
 refine⟨_,rfl,YN (pa:=J++p1) (pv:=[]) i a6 (fun _ _ _=>trodAll_mk1 (shut_bool Tryz.underlying4 _)) (fun Q Z=>?_) (fun _ _=>rfl) A3 (ok_one (by kernel_rfl) rfl (okWide_bool_mk Tryz.underlying4 _))⟩;exact trodAll_mk2 (a (by kernel_rfl) (Ek (by kernel_rfl)) ag (fun x hx=>by simp[hx]) Z) (a (by kernel_rfl) (Ek (by kernel_rfl)) af (fun x hx=>by simp[hx]) Z)
end
end Go.Proofs.YtogfcjbgeebfkaaGreatDoor
