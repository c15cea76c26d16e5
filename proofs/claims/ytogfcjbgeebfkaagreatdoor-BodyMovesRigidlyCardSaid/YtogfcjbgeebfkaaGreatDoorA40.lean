/-
  Part of the proof of statement 9
-/
import Derived.Test.YtogfcjbgeebfkaaGreatDoorA39
import Derived.Test.YtogfcjbgeebfkaaGreatDoorA07
import Derived.Test.YtogfcjbgeebfkaaGreatDoorRows
import Derived.LaidMore
import Derived.LaidLaws
import Derived.MakeChecks
import Derived.OpenShut
import Derived.Lay
import Derived.ChangeMaps5
import Derived.Deep.DeepHandedRow
set_option linter.unusedSimpArgs false
set_option linter.unusedVariables false
set_option maxRecDepth 100000
set_option maxHeartbeats 16000000
namespace Go.Proofs.YtogfcjbgeebfkaaGreatDoor
open Go Go.Av Go.aC
open Go.ChangeShapes Go.WideShapes Go.ChangeAt Go.RowKit
section
theorem own:ownKnob Tryz.prog.godebug=none:=by rfl
theorem laidOut:laidOutB Tryz.prog=true:=by kernel_rfl
def pd:List (String×DataW Unit):=Rows.bodyMovesRigidlyRow.laid
theorem bNl:Tryz.prog.globalNamed "internal/strconv.uint64pow10" =some 3:=by rfl
theorem bRw:(Tryz.prog.globals[3]?).map (·.type)=some 343:=by rfl
def XA:AV->DataW Unit
 |.int k n=>.lit (.int k n)
 |_=>.nil
theorem bCs:Rows.laid_internal_strconv_uint64pow10=DataW.agg (sE.map XA):=by rfl
variable{name:String}{p:List MemPlace}
theorem aNt{W:World}{mo:Bool}{enc:TypeId×Value->Unit}{g:Nat}{cs:Array Value}{base X:Nat}{i:Nat->Bool}{hd:Bool}(t:Tryz.prog.globalNamed name=some g)(J:W.var? Tryz.prog name=some cs)
 (h:DataW.trod enc Tryz.prog W base i hd X 343 cs.toList=some (DataW.agg (sE.map XA),p)):VR (tD mo W) W (.pl sE) (.pointer (some ⟨g,0,none⟩)):=by
 obtain⟨xs,m,_,C,U,L,b⟩:=DataW.trod_array Tryz.underlying343 h;have y:Tryz.prog.cellsOf 149=1:=by kernel_rfl
 simp only[Ap,DataW.agg.injEq] at C;have V:sE.length=20:=by kernel_rfl
 have key:∀j,j<20->∃n,cs[j]?=some (.int .u64 n)/\sE.getD j aB=.int .u64 n:=by
  intro j Y;have O:=b j Y;rw[y,Df,Af A0] at O;obtain⟨n,T,P,_⟩:=DataW.trod_int Tryz.underlying149 O;refine⟨n,?_,?_⟩
  . have c:(((cs.toList.drop j).take 1))[0]?=some (.int .u64 n):=by rw[T];rfl
    grind
  have Z:(sE.map XA)[j]?=some (.lit (.int .u64 n)):=by grind
  rw[Eg] at Z;rw[List.getD]
  cases D:sE[j]? with
  |none=>rw[D] at Z;cases Z
  |some a=>rw[D] at Z;simp only[Ct,Aj] at Z;cases a<;>simp[XA] at Z;obtain⟨rfl,rfl⟩:=Z;rfl
 have cell:∀j,W.cell? ⟨g,0+j,none⟩=cs[j]?:=fun j=>by rw[Em];exact World.var?_cell t J j
 obtain⟨f,N⟩:=Go.Deep.choose_lt (α:=Int) (n:=20) (p:=fun j n=>cs[j]?=some (.int .u64 n)/\sE.getD j aB=.int .u64 n) key;refine .pl sE g 0 (fun j=>.int .u64 (f j)) (fun j Y=>?_) (fun j Y=>?_)
 . have :=N j Y;refine⟨⟨_,(cell j).trans this.1⟩,(cell j).trans this.1,?_⟩;rw[this.2];rfl
 rw[(N j Y).2];exact .int _ _
theorem aNu{W:World}{enc:TypeId×Value->Unit}{g:Nat}{cs:Array Value}{base X:Nat}{i:Nat->Bool}{hd:Bool}(t:Tryz.prog.globalNamed name=some g)(J:W.var? Tryz.prog name=some cs)
 (h:DataW.trod enc Tryz.prog W base i hd X 343 cs.toList=some (DataW.agg (sE.map XA),p)):∃c q fz,W.heap[g]?=some (.cells c q fz)/\c.size=sE.length:=by
 obtain⟨xs,m,_,C,U,L,T⟩:=DataW.trod_array Tryz.underlying343 h;have y:Tryz.prog.cellsOf 343=20:=by rfl
 have V:sE.length=20:=by rfl
 unfold World.var? at J
 grind
theorem aOg{W:World}(h:laidMetH Tryz.prog pd W):WR mG (tD false W) ⟨0,.nil⟩ W:=by
 rw[MakeChecks.laidMetH_plain _ _ _ (by kernel_rfl)] at h;obtain⟨ps,⟨g0,v,p,t,z,k,C,w,e,u,⟨g,t1,m,b,P,q1,q,i,r,c,⟨d,t2,l,s,S,q2,M,f,I,a,_,_⟩,_⟩,_⟩,_,_⟩:=h;obtain rfl:=Aa (bNl.symm.trans M);obtain rfl:=Aa (bRw.symm.trans f);rw[bCs] at a;refine aZd (fun n cs A=>?_) fun n cs A o=>?_;rotate_left
 . have A:QK n=some cs:=A;unfold QK at A;split at A
   . rename_i X;obtain rfl:=Ch X;cases A;exact aNu M I a
   split at A
   . cases A;exact absurd rfl o
   cases A
 have A:QK n=some cs:=A;unfold QK at A;split at A
 . rename_i X;obtain rfl:=Ch X;cases A;exact aNt M I a
 split at A
 . cases A;exact .pl [] n 0 (fun _=>undef) (fun j Y=>absurd Y (Al _)) (fun j Y=>absurd Y (Al _))
 cases A
def ivV:Value->Int
 |.int _ n=>n
 |_=>0
theorem aRu:OB Tryz.prog 8 33=some [3,3,3]:=by rfl
theorem bEo:OB Tryz.prog 8 25=some [9,22,3,3,3,3]:=by rfl
theorem bEp:OB Tryz.prog 8 65=some [63]:=by rfl
section
variable {H:Type} {enc:TypeId×Value->H} {W:World} {base:Nat} {hd:Bool}
theorem im{v:Value}{m:Nat}{y:DataW H×List MemPlace}(mo:Bool)(h:DataW.trod enc Tryz.prog W base (fun _=>true) hd m 63 [v]=some y):∃p:AV×List aC.V,qO p/\VR (tD mo W) W p.1 v:=by
 rcases Vn Tryz.underlying63 aRu (fun u K=>by
  have :u=3:=by grind
  subst this;rfl) (by rfl) A1 mo h with rfl|⟨len,f,hl,hw,hv⟩
 . exact⟨(.bE,[]),.inl ⟨rfl,rfl⟩,.bE⟩
 refine⟨(.bJ 0 3 (bR ((List.range len).map fun i=>(⟨f (i*3+0),f (i*3+1),f (i*3+2)⟩:aC.V))),(List.range len).map fun i=>⟨f (i*3+0),f (i*3+1),f (i*3+2)⟩),.inr rfl,hv _ ?_ ?_ ?_⟩
 . simp[bR]
 . intro e B;simp only[bR,Bb] at B;obtain⟨x,_,rfl⟩:=B;rfl
 rw[show([3,3,3]:List TypeId).length=3 from rfl,<-RM (fun j=>AV.int .i64 (f j)) 3 len];simp only[bR,Da];rfl
theorem il{v:Value}{m:Nat}{y:DataW H×List MemPlace}(mo:Bool)(h:DataW.trod enc Tryz.prog W base (fun _=>true) hd m 22 [v]=some y)(F:∀a len cap,v=.slice (some a) len cap->a.spot=none):
 ∃(pv:AV) (ps:List (AV×List aC.V)),AY pv ps/\(∀p∈ps,qO p)/\ps.length<2^63/\VR (tD mo W) W pv v:=by
 rcases Go.Deep.open_slice Tryz.underlying22 h with ⟨h0,_⟩|⟨a,len,cap,L,n,D,Pl,J,X,U,hm,S,rfl,C⟩
 . obtain rfl:v=.slice none 0 0:=by simpa using h0
   exact⟨.bE,[],.inl ⟨rfl,rfl⟩,by simp,by decide,.bE⟩
 obtain rfl:v=.slice (some a) len cap:=by simpa using J
 have M:=F a len cap rfl;obtain⟨b,o,s⟩:=a;simp only at M;subst M;have R:L=cap:=by simpa using S
 have c1:Tryz.prog.cellsOf 65=1:=by kernel_rfl
 have A:cap<=2^63 -1:=hm
 obtain⟨f,N⟩:=Go.Deep.choose_lt (α:=(AV×List aC.V)×Value) (n:=len) (p:=fun j r=>qO r.1/\W.cell? ⟨b,o+j,none⟩=some r.2/\VR (tD mo W) W r.1.1 r.2) (fun j Y=>by
  obtain⟨I,O,Z⟩:=C j A0;rw[c1,Df] at O;obtain⟨_,Q,k⟩:=World.cells?_some O;obtain⟨u,mu,d,K,E⟩:=(vE 8 bEp Z) 0 63 rfl;obtain⟨p,P,c⟩:=im mo E;refine⟨(p,u),P,?_,c⟩;have :=k 0 A0;rw[K] at this;rw[<-this,Ws]
  rfl)
 refine⟨.bJ 0 1 (qH ((List.range len).map fun j=>(f j).1)),(List.range len).map fun j=>(f j).1,.inr rfl,?_,by simp;omega,?_⟩
 . intro p P;obtain⟨j,Y,rfl⟩:=Bb.1 P;exact(N j (Ax.1 Y)).1
 have T:(qH ((List.range len).map fun j=>(f j).1)).length=len:=by simp[qH]
 have i:(qH ((List.range len).map fun j=>(f j).1)).flatten=(List.range len).map fun j=>(f j).1.1:=by
  unfold qH;rw[Da];generalize List.range len=l
  induction l with
  |nil=>rfl
  |cons x r z=>rw[Cg,Cl,z];rfl
 have t:∀j,j<len->(qH ((List.range len).map fun j=>(f j).1)).flatten.getD j aB=(f j).1.1:=fun j Y=>by rw[i,List.getD,Eg,Kq Y];rfl
 have g:(qH ((List.range len).map fun j=>(f j).1)).flatten.length=len:=by rw[i];simp
 have :=VR.bJ (G:=tD mo W) (w:=W) 0 1 (qH ((List.range len).map fun j=>(f j).1)) b o cap (fun j=>(f j).2)
  (fun e B=>by simp only[qH,Bb] at B;obtain⟨x,_,rfl⟩:=B;rfl)
  (fun j Y=>by
    rw[g] at Y;obtain⟨q1,q2,q3⟩:=N j Y;refine⟨⟨_,q2⟩,q2,?_⟩;rw[t j Y]
    rcases q1 with ⟨q,_⟩|q<;>rw[q]<;>rfl)
  (fun j Y=>by
    rw[g] at Y;rw[t j Y]
    exact(N j Y).2.2)
  ⟨by rw[T];exact U,trivial⟩
 rw[T] at this;exact this
theorem KF{G:Gh}{w:World}{cs:List Value}{i:Nat}(h:∃n,cs[i]?=some (.int .i64 n)/\(Lit.int .i64 n).wf=true):VR G w (.int .i64 (ivV (cs.getD i undef))) (cs.getD i undef):=by obtain⟨n,A,_⟩:=h;rw[List.getD,A];exact .int _ _
theorem aHz{cs:Array Value}{m:Nat}{y:DataW H×List MemPlace}(mo:Bool)(U:cs.toList.length=3)(h:DataW.trod enc Tryz.prog W base (fun _=>true) hd m 33 cs.toList=some y):∃d:aC.V,VR (tD mo W) W (.agg (cG d)) (.agg cs):=by
 have R:=vE 8 aRu h;refine⟨⟨ivV (cs.toList.getD 0 undef),ivV (cs.toList.getD 1 undef),ivV (cs.toList.getD 2 undef)⟩,.agg _ cs.toList U ?_ ?_⟩
 . intro c a;simp only[cG,Bd,Ci,Fe] at a
   rcases a with rfl|rfl|rfl<;>rfl
 intro j Y
 exact match j,Y with
 |0,_=>KF (oC R (i:=0) (u:=3) rfl Tryz.underlying3)
 |1,_=>KF (oC R (i:=1) (u:=3) rfl Tryz.underlying3)
 |2,_=>KF (oC R (i:=2) (u:=3) rfl Tryz.underlying3)
 |n+3,h=>absurd h (by simp[cG])
end
theorem Vj{W:World}{base:Nat}{t e:TypeId}{v:Value}(q:Tryz.prog.underlying t=some (.slice e))(h:Cell.okWide Tryz.prog W .any base t v):∀a len cap,v=.slice (some a) len cap->a.spot=none:=by rintro a len cap rfl;simp only[Cell.okWide,Cell.ok,q] at h;exact h.2.2.2.1
theorem aMp:Tryz.prog.cellTypes Tryz.prog.depth 25=some [9,22,3,3,3,3]:=by rfl
theorem z7{H:Type}{enc:TypeId×Value->H}{W:World}{base r:Nat}{hd:Bool}{cs:Array Value}{m:Nat}{y:DataW H×List MemPlace}(mo:Bool)(U:cs.toList.length=6)(h:DataW.trod enc Tryz.prog W base (fun _=>true) hd m 25 cs.toList=some y)
 (k:∀(i:Nat) (v:Value),cs[i]?=some v->∃u,([9,22,3,3,3,3]:List TypeId)[i% [9,22,3,3,3,3].length]?=some u/\Cell.okWide Tryz.prog W .any r u v):
 ∃(name:List UInt8) (pv:AV) (ps:List (AV×List aC.V)) (M C L r1:Int),name.length<2^63/\AY pv ps/\(∀p∈ps,qO p)/\ps.length<2^63/\VR (tD mo W) W (.agg (eT name pv M C L r1)) (.agg cs):=by
 have R:=vE 8 bEo h;obtain⟨z,s,Z⟩:=jo R (i:=0) (u:=9) rfl Tryz.underlying9;obtain⟨l,C,e,o,w⟩:=R 1 22 rfl
 have f:cs[1]?=some l:=by simpa using o
 obtain⟨B,a,b⟩:=k 1 l f;obtain rfl:B=22:=(Aa a).symm;obtain⟨pv,ps,P,J,X,d⟩:=il mo w (Vj Tryz.underlying22 b)
 have E:pv.one=true:=by rcases P with ⟨rfl,_⟩|rfl<;>rfl
 refine⟨z.data.toList,pv,ps,ivV (cs.toList.getD 2 undef),ivV (cs.toList.getD 3 undef),ivV (cs.toList.getD 4 undef),ivV (cs.toList.getD 5 undef),?_,P,J,X,.agg _ cs.toList U ?_ ?_⟩
 . have :z.data.toList.length=z.size:=Ef;have g:maxLen=2^63 -1:=rfl;omega
 . intro c q;simp only[eT,Bd,Ci,Fe] at q
   rcases q with rfl|rfl|rfl|rfl|rfl|rfl<;>first|rfl|exact E
 intro j Y
 exact match j,Y with
 |0,_=>by
  have :cs.toList.getD 0 undef=.string z:=by rw[List.getD,s];rfl
  rw[this];exact .str z
 |1,_=>by
  have :cs.toList.getD 1 undef=l:=by rw[List.getD,o];rfl
  rw[this];exact d
 |2,_=>KF (oC R (i:=2) (u:=3) rfl Tryz.underlying3)
 |3,_=>KF (oC R (i:=3) (u:=3) rfl Tryz.underlying3)
 |4,_=>KF (oC R (i:=4) (u:=3) rfl Tryz.underlying3)
 |5,_=>KF (oC R (i:=5) (u:=3) rfl Tryz.underlying3)
 |n+6,h=>absurd h (by simp only[eT,Ba,Ca];omega)
def bNg:Value:=.agg #[.string ⟨#[]⟩,.slice none 0 0,.int .i64 0,.int .i64 0,.int .i64 0,.int .i64 0]
def bNh:Value:=.agg #[.int .i64 0,.int .i64 0,.int .i64 0]
def rdB{H:Type}:DataW H:=.agg [.lit (.string []),.nil,.agg [.lit (.int .i64 0),.lit (.int .i64 0)],.agg [.lit (.int .i64 0),.lit (.int .i64 0)]]
def rdV{H:Type}:DataW H:=.agg [.lit (.int .i64 0),.lit (.int .i64 0),.lit (.int .i64 0)]
theorem aOl(os:Os)(c:os.Started)(H:Type)(enc:TypeId×Value->H)(F:Stop.Interp):
 ReturnsInHanded {} Tryz.checked os 5 .any ((OpenSpec.ofChange Rows.bodyMovesRigidlySpec).preRow enc Tryz.prog Tryz.f5 Rows.bodyMovesRigidlyRow.domain false Rows.bodyMovesRigidlyRow.laid) (((OpenSpec.ofChange Rows.bodyMovesRigidlySpec).at F).post enc Tryz.prog Tryz.f5 false true false false):=by
 refine returnsInHanded_of_row (C:=Tryz.checked) (s:=OpenSpec.ofChange Rows.bodyMovesRigidlySpec) own c (by kernel_rfl) Tryz.func5
  ⟨World.laidAll Tryz.prog os pd,fun _ _=>0,⟨#[],#[bNg,bNh],[]⟩,World.laidAll_os _ _ _,World.shaped_of_ZipB (by kernel_rfl) (by kernel_rfl),rfl,(Input.okWide_of_okWideB (by kernel_rfl)).2,
    OpenSpec.preRow_of_cond 8 (x:=([rdB,rdV],[],[])) (by kernel_rfl) (by kernel_rfl) (fun k E=>by cases E) (by kernel_rfl) (by rw[show Rows.bodyMovesRigidlyRow.laid=pd from rfl,MakeChecks.laidMetH_plain _ _ _ (by kernel_rfl)];exact laidMet_laidAll _ (by kernel_rfl) (by kernel_rfl)),by
    simp only[Assume.holds]
    exact⟨by simp,by simp,by simp,by simp,by simp⟩⟩ ?_
 intro W base args ds gs a6 U hW _ G _ m _ _;have m:laidMetH Tryz.prog pd W:=m
 have Q:∀(j:Nat) t v,Tryz.f5.params[j]?=some t->args[j]?=some v->Value.okWide Tryz.prog W .any base t v:=U
 have a:=hW;obtain⟨p,q,ad,hV,rfl,od,TZ⟩:=hW;have hA:DataW.TrodAll enc Tryz.prog W 0 (fun _=>true) true Tryz.f5.params.toList args.toList ds p:=ad;rw[Tryz.params5] at hA Q;obtain⟨v0,v1,Z,S,z,P,rfl,rfl,rfl,h0,O⟩:=trodAll_two hA;obtain⟨rfl,rfl⟩:=trodVars_none hV;have k0:=Q 0 25 v0 rfl rfl;have k1:=Q 1 33 v1 rfl rfl;simp only[Value.okWide,Tryz.underlying25] at k0;simp only[Value.okWide,Tryz.underlying33] at k1;obtain⟨l,rfl,nq,ts,a7,_,kR⟩:=k0;obtain rfl:=Aa (aMp.symm.trans a7);obtain⟨y,rfl,nt,_⟩:=k1;have af:=h0;have ae:=O;obtain⟨A,h0⟩:=h0;obtain⟨f1,O⟩:=O
 replace h0:DataW.trod enc Tryz.prog W 0 (fun _=>true) true A 25 l.toList=some (Z,z):=h0
 replace O:DataW.trod enc Tryz.prog W 0 (fun _=>true) true f1 33 y.toList=some (S,P):=O
 have l0:l.toList.length=6:=by rw[Ef,nq];kernel_rfl
 have D:y.toList.length=3:=by rw[Ef,nt];kernel_rfl
 obtain⟨name,pv,ps,M,m1,L,r1,I,Tb,J,X,ab⟩:=z7 false l0 h0 kR;obtain⟨d,WU⟩:=aHz false D O
 have hS:=(aOh I Tb J X d M m1 L r1 ⟨0,.nil⟩).2 (tD false W) W [.agg l,.agg y] (aOg m)
  ⟨rfl,fun j Y=>match j,Y with
    |0,_=>ab
    |1,_=>WU
    |n+2,h=>absurd h A2⟩
 refine hS.mono fun e W' ⟨G',hw,w,N⟩=>?_
 have B:e=.returned (.bool true):=by
  cases e with
  |returned u=>
   cases N with
   |bool b=>rfl
  |_=>exact N.elim
 subst B
 have same:∀x:MemPlace,x.block<W.heap.size->W.sameAt W' x:=fun x hx=>by
  cases x with
  |cell b o=>have g:b<W.heap.size:=hx;show W'.cell? ⟨b,o,none⟩=W.cell? ⟨b,o,none⟩;simp only[World.cell?,LK w g]
  |map b=>exact LK w hx
 have r:∀x∈(z++P)++[],x.block<W.heap.size:=fun x hx=>by simpa using a.lt x hx
 have R:∀{i:Nat->Bool} {t:TypeId} {v:Value} {d:DataW H} {ps:List MemPlace},Tryz.prog.readableRec t=true->t<Tryz.prog.types.size->DataW.Trod enc Tryz.prog W 0 (fun _=>true) true t v d ps->(∀x∈ps,x∈(z++P)++[])->
  (∀x∈(z++P)++[],i x.block=true)->DataW.Trod enc Tryz.prog W' 0 i true t v d ps:=fun V f h T K=>
  WideElems.Trod_stays laidOut V f h (fun x hx=>same x (r x (T x hx))) fun x hx=>K x (T x hx)
 refine⟨_,rfl,Yc (pa:=z++P) (pv:=[]) w a (fun _ _ _=>trodAll_mk1 (shut_bool Tryz.underlying4 _)) (fun i K=>?_) (fun _ _=>rfl) A2 (ok_one (by kernel_rfl) rfl (okWide_bool_mk Tryz.underlying4 _))⟩;exact trodAll_mk2 (R (by kernel_rfl) (Dv (by kernel_rfl)) af (fun x hx=>by simp[hx]) K) (R (by kernel_rfl) (Dv (by kernel_rfl)) ae (fun x hx=>by simp[hx]) K)
end
end Go.Proofs.YtogfcjbgeebfkaaGreatDoor
