/-
  Part of the proof of statement 10
-/
import Derived.Test.YtndkpgceodimiaaGreatDoorA26
import Derived.Test.YtndkpgceodimiaaGreatDoorA07
import Derived.Test.YtndkpgceodimiaaGreatDoorA34
set_option linter.unusedVariables false
set_option maxRecDepth 100000
set_option maxHeartbeats 16000000
namespace Go.Proofs.YtndkpgceodimiaaGreatDoor
open Go Go.Av
attribute [local congr] aV aO aP aL aX aR aQ aH aY
attribute [local irreducible] FC bY eX
theorem TF {l:List Int} {i:Nat} (hi:i<l.length):(eY l).getD i []=[.int .i64 l[i]]:=by simp[eY,hi]
theorem IJ (l:List Int):∀e∈eY l,bL e=true:=fun e he=>by obtain⟨w,_,rfl⟩:=Bf.1 he;rfl
theorem nB.bBj {H H':aA} {sz:Nat} {v:AV} {els:List (List AV)} (h:nB H sz v els) (hn:H.next<=H'.next) (ho:∀j,j<H.next->H'.get j=H.get j):nB H' sz v els:=by
 refine⟨?_,h.2⟩
 rcases h.1 with h1|⟨k,h1,h2,h3⟩
 · exact .inl h1
 exact .inr ⟨k,h1,by omega,by rw[ho _ h2];exact h3⟩
theorem _root_.Go.Av.Own.YQ {H:aA} {sz:Nat} {v:AV} {els:List (List AV)} (ho:Own H sz v els) {id:Nat} {cs:List AV} {o:Bool} (h:H.get id=some (.cells cs o)):rN v≠some id:=fun e=>by
 rcases ho with ⟨rfl,_⟩|⟨k,rfl,_,hk⟩
 · cases e
 cases e;rw[h] at hk;cases hk
theorem _root_.Go.Av.XB.cells {H H':aA} {sz:Nat} {v:AV} {els:List (List AV)} (hg:XB H H' v) (ho:Own H sz v els) {id:Nat} {cs:List AV} {o:Bool} (cZ:id<H.next) (h:H.get id=some (.cells cs o)):H'.get id=some (.cells cs o):=by rw[hg.get id (ho.YQ h) cZ,h]
theorem _root_.Go.Av.nB.one {H:aA} {sz:Nat} {v:AV} {els:List (List AV)} (h:nB H sz v els):v.cells=[v]/\v.AS=false/\v.cells.length=1:=by rcases h.1 with ⟨rfl,_⟩|⟨k,rfl,_⟩<;>exact⟨rfl,rfl,rfl⟩
def yL:List Bool->Nat->List Int
 |[],_=>[]
 |b::l,k=>if b then((k:Int)+1)::yL l (k+1) else yL l (k+1)
theorem JQ:∀(l:List Bool) (k:Nat),(yL l k).length<=l.length
 |[],_=>Ak _
 |b::l,k=>by have :=JQ l (k+1);unfold yL;split<;>simp <;>omega
theorem WT:∀(a b:List Bool) (k:Nat),yL (a++b) k=yL a k++yL b (k+a.length)
 |[],b,k=>by simp[yL]
 |x::a,b,k=>by have :=WT a b (k+1);simp only[Fc,yL,this,Aq];rw[show k+1+a.length=k+(a.length+1) by omega];split<;>rfl
theorem Rz {l:List Bool} {i:Nat} (hi:i<l.length):yL (l.take (i+1)) 0=yL (l.take i) 0++if l[i] then [(i:Int)+1] else []:=by rw[Al,Ab hi,WT,Cq,Cv,Jq (by omega)];rfl
def o7 (s:Sc):AV:=Ma 1 (eY (yL s.st 0))
theorem aSz {s:Sc} (hs:s.OK) (H:aA):Sg 13 [.agg s.cs] H (.ret (o7 s)) H:=by
 refine dL fit eU aVr (Aj rfl) (by simp only[bL,AV.free,Sc.free hs];rfl) ?_ H;unfold W13;dsimp only;have l1:=hs.st.len;simp only[cX] at l1;rw[iJ] at l1;have b1:=hs.aU;refine bQ ?_;simp only[↓zP,zJ,seval,Sc.cs];refine fM ?_;simp only[↓zP,zG,seval];refine bR ?_;refine aG fun K hK=>?_;refine bQ ?_;simp only[↓zP,zJ,seval,l1];refine bR ?_;refine bO [3] (fun i vs H'=>∃v,vs=[v]/\nB H' 1 v (eY (yL (s.st.take i) 0))) s.st.length (by omega) (by decide) ?_ ?_ ?_ ?_ ?_
 · simp only[zB,seval]
 · simp only[zB,seval]
 · exact⟨.aS,by simp only[sm,zB,seval],.nil _ _⟩
 · rintro i f H1 hi hk e1 ⟨v,lH,ho⟩;simp only[zM] at lH;have f7:f 7=.aU 0 1 (bE s.st):=by rw[hk 7 rfl];simp only[zB,seval];exact hs.st.aU (i:=i) (by rw[iJ];exact hi)
   have hg:=GV hi;rw[Rz hi];have xr:=JQ (s.st.take i) 0;rw[Cq] at xr;have hw:IntKind.i64.wrap ((i:Int)+1)=(i:Int)+1:=wrap_i64 (by omega) (by omega);generalize s.st[i]=b at *;generalize yL (s.st.take i) 0=o at *;refine aF ?_;refine bQ ?_;simp only[↓zP,zJ,seval,e1,f7,aB,iJ,hi,hg];refine bR ?_;cases b
   · simp only[↓zP,zJ,seval];exact⟨v,by simp only[seval,lH],by simpa using ho⟩
   obtain⟨v',H3,ha,ho3,_⟩:=ho.append (bytes:=8) (e:=[.int .i64 ((i:Int)+1)]) (by rw[dX];omega);simp only[↓zP,zJ,seval,lH,hw,eL,ha];refine⟨v',by simp only[seval],?_⟩;rw[sR];exact ho3
 rintro f H1 hk ⟨v,lH,ho⟩;simp only[zM] at lH;rw[Ao] at ho;simp only[↓zP,seval];apply hK;clear hK K;simp only[↓zP,zG,seval,lH];refine⟨rfl,_,by simp only[↓zP,zR,seval];rfl,?_⟩;exact⟨v,0,rfl,fun nw=>ho.shut (jJ (IJ _)) nw⟩
theorem aHk {s:Sc} (hs:s.OK) (H:aA):Sg 14 [.agg s.cs] H (.ret (o7 s)) H:=by
 refine dL fit eU bEt (Aj rfl) (by simp only[bL,AV.free,Sc.free hs];rfl) ?_ H;unfold W14;dsimp only;have l1:=hs.st.len;simp only[cX] at l1;rw[iJ] at l1;have b1:=hs.aU;refine bQ ?_;simp only[↓zP,zJ,seval,Sc.cs];refine fM ?_;simp only[↓zP,zG,seval];refine bR ?_;refine aG fun K hK=>?_;simp only[↓zP,zG,seval];refine bN [3] (fun i vs H'=>H'.get 0=some (.cells [s.sv,s.pv,s.vv,s.wv,s.tv,s.av] false)/\1<=H'.next/\∃v,vs=[v]/\nB H' 1 v (eY (yL (s.st.take i) 0))) 0 s.st.length (Az _) (by omega) (by decide) ?_ ?_ ?_ ?_ ?_
 · simp only[zB,seval]
 · exact⟨by simp only[zI,seval],by simp only[zI,seval],.aS,by simp only[sm,zB,seval],.nil _ _⟩
 · rintro i f H1 h0 hi hk e1 ⟨g0,_,_⟩;have f1:f 1=.ref 0 0:=hk 1 rfl;simp only[↓zP,zJ,seval,e1,f1,g0,l1];exact tB (by omega)
 · rintro i f H1 h0 hi hk e1 ⟨g0,gn,v,lH,ho⟩;simp only[zM] at lH;have f1:f 1=.ref 0 0:=hk 1 rfl;have II:s.sv=.aU 0 1 (bE s.st):=hs.st.aU (i:=i) (by rw[iJ];exact hi);have hg:=GV hi;rw[Rz hi];have xr:=JQ (s.st.take i) 0;rw[Cq] at xr;have hw:IntKind.i64.wrap ((i:Int)+1)=(i:Int)+1:=wrap_i64 (by omega) (by omega);generalize s.st[i]=b at *;generalize yL (s.st.take i) 0=o at *;refine aF ?_;cases b
   · simp only[↓zP,zJ,seval,e1,f1,g0,II,aB,iJ,hi,hg];exact⟨trivial,gn,v,by simp only[seval,lH],by simpa using ho⟩
   obtain⟨v',H3,ha,ho3,VI⟩:=ho.append (bytes:=8) (e:=[.int .i64 ((i:Int)+1)]) (by rw[dX];omega);simp only[↓zP,zJ,seval,e1,f1,g0,II,aB,iJ,hi,hg,lH,hw,eL,ha];rw[II] at g0;exact⟨VI.cells ho.1 gn g0,Cb gn VI.next,v',rfl,by rw[sR];exact ho3⟩
 rintro f H1 hk ⟨g0,gn,v,lH,ho⟩;simp only[zM] at lH;rw[Ao] at ho;simp only[↓zP,seval];apply hK;clear hK K;simp only[↓zP,zG,seval,lH];refine⟨rfl,_,by simp only[↓zP,zR,seval];rfl,?_⟩;exact⟨v,0,rfl,fun nw=>ho.shut (jJ (IJ _)) nw⟩
theorem lO.Zm {v:AV} {l:List Int} (h:lO v 1 (eY l)):v.free=true:=h.free (IJ _)
theorem aBi {v w:AV} {l m:List Int} (hv:lO v 1 (eY l)) (hw:lO w 1 (eY m)) (hl:l.length<2^63) (H:aA):Sg 12 [v,w] H (.ret (.bool (decide (l=m)))) H:=by
 refine So aVi (by simp only[bL,hv.Zm,hw.Zm];rfl) ?_ H;unfold W12;dsimp only;have l1:=hv.len;have l2:=hw.len;simp only[cX] at l1 l2;rw[dX] at l1 l2;refine bQ ?_;simp only[↓zP,zG,seval];refine fM ?_;by_cases hlm:l.length=m.length;rotate_left
 · have d1:((l.length:Int) != (m.length:Int))=true:=by rw[Dc];omega
   simp only[↓zP,zJ,seval,l1,l2,d1];refine Rx ?_;rw[Ae (fun e=>hlm (by rw[e]))];rfl
 have d1:((l.length:Int) != (m.length:Int))=false:=by rw[bne_eq_false_iff_eq];omega
 simp only[↓zP,zJ,seval,l1,l2,d1];refine bR ?_;refine aG fun K hK=>?_;simp only[↓zP,zG,seval];refine bN [] (fun i vs H'=>H'=⟨0,.nil⟩/\∀k,k<i->l[k]?=m[k]?) 0 l.length (Az _) (by omega) (by decide) ?_ ?_ ?_ ?_ ?_
 · simp only[zB,seval]
 · exact⟨rfl,fun k hk=>absurd hk (As _)⟩
 · rintro i f H1 h0 hi hk e1 ⟨rfl,_⟩;have f0:f 0=v:=by rw[hk 0 rfl];rfl
   simp only[↓zP,zG,seval,e1,f0,l1];exact tB (by omega)
 · rintro i f H1 h0 hi hk e1 ⟨rfl,bM⟩;have f0:f 0=.aU 0 1 (eY l):=(hk 0 rfl).trans (hv.aU (i:=i) (by rw[dX];exact hi));have Pc:i<m.length:=by omega
   have f1:f 1=.aU 0 1 (eY m):=(hk 1 rfl).trans (hw.aU (i:=i) (by rw[dX];exact Pc));have hg:=TF hi;have Kn:=TF Pc;refine aF ?_;refine bQ ?_;refine Dz ?_;simp only[↓zP,zJ,seval,zD,e1,f0,f1,aB,dX,hi,Pc,hg,Kn];refine bR ?_;by_cases he:l[i]=m[i]
   · have d2:(l[i] != m[i])=false:=(by rw[bne_eq_false_iff_eq];exact he);simp only[↓zP,zG,seval,d2];refine⟨trivial,fun k hk=>?_⟩;by_cases e:k=i
     · subst e;rw[Ab hi,Ab Pc,he]
     exact bM k (by omega)
   have d2:(l[i] != m[i])=true:=(by rw[Dc];exact he);simp only[↓zP,zG,seval,d2];refine Rx ?_;rw[Ae (fun e=>he (by subst e;rfl))];rfl
 rintro f H1 hk ⟨rfl,bM⟩;simp only[↓zP,seval];apply hK;clear hK K;simp only[↓zP,zG,seval];refine Rx ?_
 rw[Af (Fh fun k=>by
  by_cases h:k<l.length
  · exact bM k h
  rw[Bs (by omega),Bs (by omega)])]
 rfl
def W92:CW Tryz.f92:=⟨_,cL⟩
theorem bGu:Fi 92 W92:=cH Tryz.func92 W92
def W56:CW Tryz.f56:=⟨_,cL⟩
theorem bFt:Fi 56 W56:=cH Tryz.func56 W56
def W37:CW Tryz.f37:=⟨_,cL⟩
theorem bFg:Fi 37 W37:=cH Tryz.func37 W37
def gh:CW Tryz.f131:=⟨_,cL⟩
theorem aVt:Fi 131 gh:=cH Tryz.func131 gh
def W57:CW Tryz.f57:=⟨_,cL⟩
theorem bFu:Fi 57 W57:=cH Tryz.func57 W57
def W93:CW Tryz.f93:=⟨_,cL⟩
theorem bGv:Fi 93 W93:=cH Tryz.func93 W93
def W58:CW Tryz.f58:=⟨_,cL⟩
theorem bFv:Fi 58 W58:=cH Tryz.func58 W58
def W59:CW Tryz.f59:=⟨_,cL⟩
theorem bFw:Fi 59 W59:=cH Tryz.func59 W59
def W38:CW Tryz.f38:=⟨_,cL⟩
theorem bFh:Fi 38 W38:=cH Tryz.func38 W38
def W17:CW Tryz.f17:=⟨_,cL⟩
theorem bEv:Fi 17 W17:=cH Tryz.func17 W17
def rP (z:Nat):List Nat:=if z<=127 then [z] else(z%128+128)::rP (z / 128)
termination_by z
def QW (n:Int):Nat:=if 0<=n then(2*n).toNat else(-2*n -1).toNat
theorem BP {n:Int} (h:wE n):QW n<2^64:=by unfold wE at h;unfold QW;split<;>omega
theorem WV:∀(k z:Nat),z<128^(k+1)->(rP z).length<=k+1
 |0,z,h=>by rw[rP,if_pos (by omega)];simp
 |k+1,z,h=>by
  rw[rP];split
  · simp
  have :=WV k (z / 128) (by rw[Eh] at h;omega);simp only[Aq];omega
theorem mG {z:Nat} (h:z<2^64):(rP z).length<=10:=WV 9 z (by omega)
theorem JU (z:Nat):rP z≠[]:=by rw[rP];split<;>simp
theorem wrap_u64 {x:Int} (h0:0<=x) (h1:x<2^64):IntKind.u64.wrap x=x:=by simp only[IntKind.wrap,IntKind.bits,IntKind.signed];simp;omega
theorem lo7 {m:Nat} (h:m<=127):IntKind.u8.wrap ↑m=((m:Nat):Int):=by simp only[IntKind.wrap,IntKind.bits,IntKind.signed];simp;omega
theorem tC {l:List Nat} (h:l≠[]):dF l≠[]:=by simpa [dF] using h
theorem dm {n:Int} (hn:wE n) (H:aA):Sg 92 [.int .i64 n] H (.ret (.aU (H.next+2) 1 (dF (rP (QW n))))) (H.alloc .tok):=by
 have hz:=BP hn;have JZ:=hn;unfold wE at JZ;refine mI eU rfl (tC (JU _)) (kX _) (eD fit bGu (Aj rfl) ?_ (by rfl)) H;unfold W92;dsimp only;refine bQ ?_;simp only[↓zP,zG,seval];refine fM ?_;simp only[↓zP,zJ,seval];refine bR ?_;refine aG fun K hK=>?_
 have key:∀f:dD,f 3=.int .u64 (QW n)->K f [] ⟨0,.nil⟩:=by
  intro f f3;apply hK;clear hK K;refine bQ ?_;simp only[↓zP,zG,seval];refine bR ?_;refine aG fun K hK=>?_;refine aF (iG [3,4] (fun m vs H=>∃(v:AV) (pre:List Nat),vs=[.int .u64 m,v]/\m<2^64/\Own H 1 v (dF pre)/\pre++rP m=rP (QW n)) (QW n) (by rfl) ?_ ?_)
  · exact⟨.aS,[],by simp only[sm,zB,seval,f3],hz,.nil _ _,by simp⟩
  rintro m f4 H1 hk ⟨v,pre,lH,eZ,aFa,aRe⟩;simp only[zM] at lH;obtain⟨v3,v4⟩:=lH;have xo:=mG hz;rw[<-aRe,Au] at xo;by_cases Lm:m≥128
  · have d1:=Af (show(m:Int)≥128 by omega);have IG:rP m=(m%128+128)::rP (m / 128):=by rw[rP,if_neg (by omega)]
    have w1:IntKind.u8.wrap ((m:Int).tmod 128)=((m%128:Nat):Int):=by rw[Et (by omega),DW rfl];simp only[IntKind.bits];omega
    have w2:IntKind.u8.wrap (((m%128:Nat):Int)+128)=((m%128+128:Nat):Int):=by rw[DW rfl];simp only[IntKind.bits];omega
    have w3:IntKind.u64.wrap ((m:Int).tdiv 128)=((m / 128:Nat):Int):=by rw[Fz (by omega),DW rfl];simp only[IntKind.bits];omega
    have zC:∀l:List Nat,(dF l).length=l.length:=fZ;obtain⟨v',H',ha,e2,e3⟩:=aFa.append (bytes:=1) (ys:=dF [m%128+128]) (by rw[IG] at xo;simp only[fZ,Aq,Bj] at xo ⊢;omega);simp only[dF,Bv,Fg] at ha;refine bQ ?_;simp only[↓zP,zG,seval,v3,d1];refine bR ?_;refine aF ?_;refine bQ ?_;simp only[↓zP,zJ,seval,v3,v4,show ¬((128:Int)=0) by decide,w1,w2,eL,ha];refine bR ?_;simp only[↓zP,zJ,seval,v3,show ¬((128:Int)=0) by decide,w3];exact⟨m / 128,by omega,v',pre++[m%128+128],by simp only[seval],by omega,by rw[gX];exact e2,by rw[<-aRe,IG];simp⟩
  have d1:=Ae (show ¬(m:Int)≥128 by omega);have hle:m<=127:=by omega
  have IG:rP m=[m]:=by rw[rP,if_pos hle]
  obtain⟨v',H',ha,e2,e3⟩:=aFa.append (bytes:=1) (ys:=dF [m]) (by rw[IG] at xo;simp only[fZ,Aq,Bj] at xo ⊢;omega);simp only[dF,Bv,Fg] at ha;simp only[↓zP,zG,seval,v3,d1];apply hK;clear hK K;simp only[↓zP,zJ,seval,v3,v4,lo7 hle,eL,dF,ha];refine Rx ?_;refine⟨v',rfl,?_⟩;rw[<-aRe,IG];show Own H' 1 v' (dF (pre++[m]));rw[gX];exact e2
 by_cases aEv:n<0
 · have d1:=Af aEv;have w1:IntKind.i64.wrap (-1 -n)= -1 -n:=wrap_i64 (by omega) (by omega);have w2:IntKind.u64.wrap (-1 -n)= -1 -n:=wrap_u64 (by omega) (by omega);have w3:IntKind.u64.wrap ((-1 -n)*2)=(-1 -n)*2:=wrap_u64 (by omega) (by omega)
   have w4:IntKind.u64.wrap ((-1 -n)*2+1)=(QW n:Int):=by rw[wrap_u64 (by omega) (by omega)];unfold QW;rw[if_neg (by omega)];omega
   simp only[↓zP,zJ,seval,d1,w1,w2,w3,w4];exact key _ (by simp only[zB,seval])
 have d1:=Ae aEv;have w2:IntKind.u64.wrap n=n:=wrap_u64 (by omega) (by omega)
 have w4:IntKind.u64.wrap (n*2)=(QW n:Int):=by rw[wrap_u64 (by omega) (by omega)];unfold QW;rw[if_pos (by omega)];omega
 simp only[↓zP,zJ,seval,d1,w2,w4];exact key _ (by simp only[zB,seval])
def eP (l:List Int):List Nat:=rP (QW l.length)++l.flatMap fun x=>rP (QW x)
theorem Ng (l:List Int):eP l≠[]:=by unfold eP;intro h;exact JU _ (List.append_eq_nil_iff.1 h).1
theorem KZ {α:Type} {l:List α} {i:Nat} (f:α->List Nat) (hi:i<l.length):(l.take (i+1)).flatMap f=(l.take i).flatMap f++f l[i]:=by rw[Al,Ab hi,Fp];simp
theorem tQ:∀{l:List Int},(∀x∈l,wE x)->(l.flatMap fun x=>rP (QW x)).length<=10*l.length
 |[],_=>by simp
 |x::l,h=>by have h1:=tQ (l:=l) fun y hy=>h y (Ay _ hy);have h2:=mG (BP (h x Ax));rw[Dr,Au,Aq];omega
theorem BT {n:Nat} (h:n<2^62):wE (n:Int):=by unfold wE;omega
theorem Yh {v:AV} {l:List Int} (hv:lO v 1 (eY l)) (hr:∀x∈l,wE x) (hl:l.length<2^33) (H:aA):Sg 56 [v] H (.ret (.aU (H.next+2) 1 (dF (eP l)))) (H.alloc .tok):=by
 refine mI eU (by simp only[bL,hv.Zm];rfl) (tC (Ng _)) (kX _) (eD fit bFt (Aj rfl) ?_ (by rfl)) H;unfold W56;dsimp only;have lv:=hv.len;simp only[cX] at lv;rw[dX] at lv;have hn:=dm (BT (n:=l.length) (by omega));refine bQ ?_;simp only[↓zP,zG,seval];refine fM ?_;simp only[↓zP,zJ,seval,lv];refine bW (hn _) ?_;simp only[↓zP,zJ,seval];refine bR ?_;refine aG fun K hK=>?_;simp only[↓zP,zG,seval];refine bN [3] (fun i vs H'=>∃w,vs=[w]/\Own H' 1 w (dF (rP (QW l.length)++(l.take i).flatMap fun x=>rP (QW x)))) 0 l.length (Az _) (by omega) (by decide) ?_ ?_ ?_ ?_ ?_
 · simp only[zB,seval]
 · exact⟨_,by simp only[sm,zB,seval];rfl,by simp only[Es,List.flatMap_nil,Cd];exact Own.fresh _ _ _⟩
 · rintro i f H1 h0 hi hk e1 _;have f0:f 0=v:=by rw[hk 0 rfl];rfl
   simp only[↓zP,zG,seval,e1,f0,lv];exact tB (by omega)
 · rintro i f H1 h0 hi hk e1 ⟨w,lH,ho⟩;simp only[zM] at lH;have f0:f 0=.aU 0 1 (eY l):=(hk 0 rfl).trans (hv.aU (i:=i) (by rw[dX];exact hi));have hg:=TF hi;have hx:=hr _ (Ac hi);have hc:=dm hx;have RT:=mG (BP hx);have vN:=tQ (l:=l.take i) fun x hx=>hr x (By hx);rw[Cq] at vN;have hnl:=mG (BP (BT (n:=l.length) (by omega)));rw[KZ _ hi,<-Di,gX];generalize l[i]=x at *;refine aF ?_;simp only[↓zP,zJ,seval,e1,f0,lH,aB,dX,hi,hg];refine bW (hc _) ?_;obtain⟨w',H',ha,e2,e3⟩:=(ho.alloc .tok).append (bytes:=1) (ys:=dF (rP (QW x))) (by simp only[fZ,Au];omega);simp only[↓zP,zG,seval,cQ,ha];exact⟨w',by simp only[seval],e2⟩
 rintro f H1 hk ⟨w,lH,ho⟩;simp only[zM] at lH;rw[Ao] at ho;simp only[↓zP,seval];apply hK;clear hK K;simp only[↓zP,zG,seval,lH];refine⟨rfl,_,by simp only[↓zP,zR,seval];rfl,?_⟩;exact⟨w,rfl,ho⟩
def jI (n:Nat):List Bool:=List.replicate n false
def pO (n:Nat):List (List Int):=List.replicate n zV
def iP (ts:List Th):List (List Int):=ts.map (·.store)
def kO (ts:List Th) (r u:Nat):Sc:=⟨.aU 0 1 (bE (jI ts.length)),Ma 7 (cC (iP ts)),.aU 0 3 (cC (pO ts.length)),.aU 0 3 (cC (pO ts.length)),.aU 0 1 (bE (jI r)),.aU 0 1 (bE (jI u)),
 jI ts.length,iP ts,pO ts.length,pO ts.length,jI r,jI u⟩
theorem Ry {ts:List Th} {r u:Nat} (ht:∀t∈ts,t.OK) (hn:ts.length<2^30) (hr:r<2^30) (hu:u<2^30):(kO ts r u).OK:=by
 have hz:∀w∈pO ts.length,w.length=3/\yY w:=fun w hw=>by obtain⟨_,rfl⟩:=List.mem_replicate.1 hw;exact⟨rfl,fun x hx=>by simp[zV] at hx;subst hx;decide⟩
 refine⟨.inr rfl,pL _ _,.inr rfl,.inr rfl,.inr rfl,.inr rfl,fun p hp=>?_,hz,hz,?_,?_,?_,?_,?_,?_⟩
 · obtain⟨t,h,rfl⟩:=Bf.1 hp;exact⟨(ht t h).store,(ht t h).i64⟩
 all_goals simp only[kO,jI,pO,iP,Jx,Ai];assumption
theorem NT {sz:Nat} {z:List AV} (hz:z.length=sz):∀n,fS sz n (List.replicate n z).flatten=List.replicate n z
 |0=>rfl
 |n+1=>by simp only[Dy,Bx,fS];rw[Co (by omega),Ar (by omega),Ft,Ii (by omega),hz,Nat.sub_self];simp[NT hz n]
theorem Uv {sz:Nat} {z:List AV} (hz:z.length=sz):∀n,(List.replicate n z).flatten.length=n*sz
 |0=>by simp
 |n+1=>by simp[Dy,Uv hz n,hz,Em,Fq]
theorem Vx {z:List AV} (hf:bL z=true):∀n,bL (List.replicate n z).flatten=true
 |0=>rfl
 |n+1=>by rw[Dy,Bx,gS,hf,Vx hf n];rfl
theorem yJ {H:aA} {id sz n:Nat} {z:List AV} {o:Bool} (hz:z.length=sz) (hf:bL z=true) (hg:H.get id=some (.cells (List.replicate n z).flatten o)) (nw:Nat):gK H none nw 0 (.sl id sz 0 n n)=some (.aU 0 sz (List.replicate n z)):=by
 have h1:H.eW id=some (List.replicate n z).flatten:=by simp only[aA.eW,hg]
 have hb:Nat.ble (n*sz) (n*sz)=true:=Nat.ble_eq_true_of_le (Ak _);simp only[gK,fU,h1,Ef,Cv,Uv hz,hb,Vx hf,Df,NT hz]
theorem xM {P:Program} {g:bB} {n:Nat} {pairs:List (Nat×Nat)} {base i k:Nat} {rs:List bD} {rd:List (Nat×Nat)} {ef:List (Nat×aA×aA)} {f:dD} {H:aA} {R:dD->aA->Prop} {d sz bytes m:Nat} {z:List AV} {l c:Arg}
 (hd:d<n) (hl:nY g f l=.int .i64 m) (hc:nY g f c=.int .i64 m) (hb:bytes*m<=2^40) (hz:z.length=sz)
 (h:(∀x∈ef,(i,x.1)∈pairs->x.2.1.get (base+k)=x.2.2.get (base+k))/\eX P g n pairs base (i+1) (k+1) rs ((i,base+k)::rd) ef (jM f d (.sl (base+k) sz 0 m m)) (H.set (base+k) (.cells (List.replicate m z).flatten false)) R):
 eX P g n pairs base i k (⟨some d,.jD sz bytes z l c,none⟩::rs) rd ef f H R:=by
 have :∀v,fN n f (some d) v=jM f d v:=fun v=>by simp[fN,hd]
 have ha:asNat (.int .i64 (m:Int))=some m:=aB _ _;unfold eX;rw[if_pos (by rfl)];simp only[eC.fresh,if_true,xK,hl,hc,ha,this];rw[if_pos ⟨Ak _,hb,hz⟩];exact h
theorem tp (n:Nat):bE (jI n)=List.replicate n [.bool false]:=by simp[bE,jI]
theorem aBa (n:Nat):cC (pO n)=List.replicate n [.int .i64 0,.int .i64 0,.int .i64 0]:=by simp[cC,pO,iC,zV]
theorem aBv {g r0 r1:Int} {ts:List Th} {rs us:List (List Int)} {tv rv uv:AV} (sH:lO tv 14 (uH ts)) (uY:lO rv 8 (cC rs)) (zF:lO uv 10 (cC us)) (ht:∀t∈ts,t.OK) (MR:ts.length<2^30) (VM:rs.length<2^30) (hul:us.length<2^30) (H:aA):
 Sg 18 [.agg (yC g r0 r1 tv rv uv)] H (.ret (.agg (kO ts rs.length us.length).cs)) H:=by
 refine dL fit eU aWz (Aj rfl) (by simp only[yC,sf,sH.free (kE ht),uY.free (bU _),zF.free (bU _)]) ?_ H;unfold W18;dsimp only;have lt:=sH.len;have lr:=uY.len;have lu:=zF.len;simp only[cX] at lt lr lu;rw[dE] at lt;rw[bG] at lr lu;refine bQ ?_;simp only[↓zP,zJ,seval,yC];refine fM ?_;simp only[↓zP,zJ,seval,lt];refine fM ?_;have s1:1*ts.length<=2^40:=by omega
 have s2:24*ts.length<=2^40:=by omega
 have s3:1*rs.length<=2^40:=by omega
 have s4:1*us.length<=2^40:=by omega
 refine lN 6 (by decide) (by simp only[mQ,seval,zI,Jc,Df]) fun H1 n1 e1=>?_;simp only[↓zP,zJ,seval,zD];refine xM (m:=ts.length) (by decide) (by simp only[dV,zB,seval]) (by simp only[dV,zB,seval]) s1 rfl ?_;simp only[↓zP,zJ,seval,zD];refine xM (m:=ts.length) (by decide) (by simp only[dV,zB,seval]) (by simp only[dV,zB,seval]) s2 rfl ?_;simp only[↓zP,zJ,seval,zD];refine xM (m:=ts.length) (by decide) (by simp only[dV,zB,seval]) (by simp only[dV,zB,seval]) s2 rfl ?_;simp only[↓zP,zJ,seval,zD,e1,lr];refine xM (m:=rs.length) (by decide) (by simp only[dV,zB,seval]) (by simp only[dV,zB,seval]) s3 rfl ?_;simp only[↓zP,zJ,seval,zD,e1,lu];refine xM (m:=us.length) (by decide) (by simp only[dV,zB,seval]) (by simp only[dV,zB,seval]) s4 rfl ?_;simp only[↓zP,zJ,seval,zD,n1,e1];refine bR ?_;generalize hX:aA.set _ 7 (fE.cells [AV.sl 2 1 0 ts.length ts.length,_,_,_,_,_] false)=HA;have g0:HA.get 0=some (.cells [.int .i64 g,.int .i64 r0,.int .i64 r1,tv,rv,uv] false):=by subst hX;simp only[zI,seval,e1]
 have g1:HA.get 1=some (.cells [.aS,.aS,.aS,.aS,.aS,.aS] false):=by subst hX;simp only[zI,seval,e1]
 have g2:HA.get 2=some (.cells (List.replicate ts.length [AV.bool false]).flatten false):=by subst hX;simp only[zI,seval]
 have g3:HA.get 3=some (.cells (List.replicate ts.length [AV.int .i64 0,.int .i64 0,.int .i64 0]).flatten false):=by subst hX;simp only[zI,seval]
 have g4:HA.get 4=some (.cells (List.replicate ts.length [AV.int .i64 0,.int .i64 0,.int .i64 0]).flatten false):=by subst hX;simp only[zI,seval]
 have g5:HA.get 5=some (.cells (List.replicate rs.length [AV.bool false]).flatten false):=by subst hX;simp only[zI,seval]
 have g6:HA.get 6=some (.cells (List.replicate us.length [AV.bool false]).flatten false):=by subst hX;simp only[zI,seval]
 have g7:HA.get 7=some (.cells [.sl 2 1 0 ts.length ts.length,.aS,.sl 3 3 0 ts.length ts.length,.sl 4 3 0 ts.length ts.length,.sl 5 1 0 rs.length rs.length,.sl 6 1 0 us.length us.length] false):=by subst hX;simp only[zI,seval]
 have gn:8<=HA.next:=by subst hX;simp only[aA.aW];simp only[zI,seval] at n1;omega
 clear hX e1 n1
 have CR:∀j,j<7->∃cs o,HA.get j=some (.cells cs o):=fun j hj=>by
  match j,hj with
  |0,_=>exact⟨_,_,g0⟩
  |1,_=>exact⟨_,_,g1⟩
  |2,_=>exact⟨_,_,g2⟩
  |3,_=>exact⟨_,_,g3⟩
  |4,_=>exact⟨_,_,g4⟩
  |5,_=>exact⟨_,_,g5⟩
  |6,_=>exact⟨_,_,g6⟩
 refine dT fun f jL=>?_;have f1:f 1=.ref 0 0:=by subst jL;simp only[zB,seval]
 have f2:f 2=.ref 1 0:=by subst jL;simp only[zB,seval]
 have f4:f 4=.ref 7 0:=by subst jL;simp only[zB,seval]
 clear jL;refine aG fun K hK=>?_;refine bQ ?_;simp only[↓zP,zJ,seval,f1,g0,lt];refine bR ?_;refine bO [] (fun i vs H'=>(∀j,j<7->H'.get j=HA.get j)/\8<=H'.next/\∃v,nB H' 7 v (cC (iP (ts.take i)))/\H'.get 7=some (.cells [.sl 2 1 0 ts.length ts.length,v,.sl 3 3 0 ts.length ts.length,.sl 4 3 0 ts.length ts.length,.sl 5 1 0 rs.length rs.length,.sl 6 1 0 us.length us.length] false)) ts.length (by omega) (by decide) ?_ ?_ ?_ ?_ ?_
 · simp only[zB,seval]
 · simp only[zB,seval]
 · exact⟨fun _ _=>rfl,gn,.aS,.nil _ _,g7⟩
 · rintro i f3 H1 hi hk x1 ⟨mj,mn,v,ho,m7⟩;have u4:f3 4=.ref 7 0:=by rw[hk 4 rfl];simp only[zB,seval];exact f4
   have u26:f3 26=.aU 0 14 (uH ts):=(by rw[hk 26 rfl];simp only[zB,seval];exact sH.aU (i:=i) (by rw[dE];exact hi));have hg:=oQ hi;have pG:=ht _ (Ac hi);have JY:=Th.len pG;have Pe:(iC ts[i].store).length=7:=by rw[cN,pG.store]
   have k7:(ts[i].cs.drop 7).take 7=iC ts[i].store:=by have :ts[i].cs.drop 7=iC ts[i].store:=rfl;rw[this,Ar (by omega)]
   have nM:iP (ts.take (i+1))=iP (ts.take i)++[ts[i].store]:=(by unfold iP;rw[Al,Ab hi,Cf];rfl);have hlen:(cC (iP (ts.take i))).length<=i:=(by simp[cC,iP];omega);rw[nM];generalize ts[i].store=q at *;generalize ts[i]=t at *;refine aF ?_;refine bQ ?_;simp only[↓zP,zJ,seval,x1,u26,aB,dE,hi,hg,oL JY];refine bR ?_;generalize hX:(H1.alloc _).set H1.next _=H3;have y6:H3.get H1.next=some (.cells t.cs false):=(by subst hX;rw[aA.aC,if_pos rfl]);have yj:∀j,j<8->H3.get j=H1.get j:=fun j hj=>by subst hX;rw[aA.aC,if_neg (by omega),aA.aJ,if_neg (by omega)]
   have yn:H1.next<H3.next:=(by subst hX;simp only[aA.aW,aA.aZ];omega);have qm:nB H3 7 v (cC (iP (ts.take i))):=nB.bBj ho (by omega) fun j hj=>by subst hX;rw[aA.aC,if_neg (by omega),aA.aJ,if_neg (by omega)]
   clear hX;have y7:=(yj 7 (by decide)).trans m7;generalize H1.next=r6 at *;obtain⟨v',H4,ha,ho4,VI⟩:=qm.append (bytes:=56) (e:=iC q) (by omega);have z7:=VI.cells qm.1 (by omega) y7;simp only[↓zP,zJ,seval,u4,y6,y7,JY,k7,Pe,eL,ha,z7,ho4.one];refine⟨fun j hj=>?_,by have :=VI.next;omega,v',?_,rfl⟩
   · obtain⟨cs,o,hc⟩:=CR j hj;have xc:=((yj j (by omega)).trans (mj j hj)).trans hc;rw[if_neg (by omega),VI.cells qm.1 (by omega) xc,hc]
   have e:cC (iP (ts.take i)++[q])=cC (iP (ts.take i))++[iC q]:=(by simp[cC]);rw[e];exact⟨ho4.1.set 7 _ (ho4.1.YQ z7),ho4.2⟩
 rintro f3 H1 hk ⟨mj,mn,v,ho,m7⟩;have u4:f3 4=.ref 7 0:=by rw[hk 4 rfl];simp only[zB,seval];exact f4
 have u2:f3 2=.ref 1 0:=by rw[hk 2 rfl];simp only[zB,seval];exact f2
 have m1:=(mj 1 (by decide)).trans g1;rw[Ao] at ho;simp only[↓zP,seval];apply hK;clear hK K;simp only[↓zP,zJ,seval,u4,u2,m7,m1];refine⟨rfl,_,by simp only[↓zP,zR,seval,u2];rfl,?_⟩;refine⟨_,1,rfl,fun nw=>?_⟩;have b2:=(mj 2 (by decide)).trans g2;have b3:=(mj 3 (by decide)).trans g3;have b4:=(mj 4 (by decide)).trans g4;have b5:=(mj 5 (by decide)).trans g5;have b6:=(mj 6 (by decide)).trans g6;generalize hX:H1.set 1 _=H2;have st:∀{id:Nat},id≠1->H2.get id=H1.get id:=fun h=>by subst hX;rw[aA.aC,if_neg h]
 have qm:nB H2 7 v (cC (iP ts)):=by subst hX;exact⟨ho.1.set 1 _ (ho.1.YQ m1),ho.2⟩
 clear hX;have s0:fU H2 none nw v=_:=qm.shut (jJ (bU _)) nw;have s2:fU H2 none nw (.sl 2 1 0 ts.length ts.length)=_:=yJ (sz:=1) rfl rfl ((st (by decide)).trans b2) nw;have s3:fU H2 none nw (.sl 3 3 0 ts.length ts.length)=_:=yJ (sz:=3) rfl rfl ((st (by decide)).trans b3) nw;have s4:fU H2 none nw (.sl 4 3 0 ts.length ts.length)=_:=yJ (sz:=3) rfl rfl ((st (by decide)).trans b4) nw;have s5:fU H2 none nw (.sl 5 1 0 rs.length rs.length)=_:=yJ (sz:=1) rfl rfl ((st (by decide)).trans b5) nw;have s6:fU H2 none nw (.sl 6 1 0 us.length us.length)=_:=yJ (sz:=1) rfl rfl ((st (by decide)).trans b6) nw;simp only[mY,gK,MV,s0,s2,s3,s4,s5,s6,Bz,kO,Sc.cs,tp,aBa]
theorem UT {H H':aA} {sz bytes:Nat} {v v':AV} {els ys:List (List AV)} (cK:ys≠[]) (ho:Own H sz v els) (h:eF H sz bytes false v ys=some (v',H')):rN v'=some H.next:=by
 unfold eF at h;rw[if_neg (by simpa using cK)] at h
 rcases ho with ⟨rfl,_⟩|⟨k,rfl,_,hk⟩
 · simp only at h;split at h
   · cases h;rfl
   cases h
 simp only at h;split at h
 · rw[hk] at h;cases h;rfl
 cases h
theorem aDn {H H':aA} {sz bytes:Nat} {v v':AV} {els:List (List AV)} {e:List AV} (ho:Own H sz v els) (h:eF H sz bytes false v [e]=some (v',H')):rN v'=some H.next:=UT (by simp) ho h
def Dj (u v:AV):Prop:=∀k,rN u=some k->rN v≠some k
theorem Dj.symm {u v:AV} (h:Dj u v):Dj v u:=fun k h1 h2=>h k h2 h1
theorem Own.other {H H':aA} {sz:Nat} {v w:AV} {els:List (List AV)} (hg:XB H H' v) (hw:nB H sz w els) (hd:Dj w v):nB H' sz w els:=by
 refine⟨?_,hw.2⟩
 rcases hw.1 with h|⟨k,rfl,hk,ht⟩
 · exact .inl h
 exact .inr ⟨k,rfl,by have :=hg.next;omega,by rw[hg.get k (hd k rfl) hk];exact ht⟩
theorem Dj.new {H:aA} {sz:Nat} {w v':AV} {els:List (List AV)} (hw:nB H sz w els) (h:rN v'=some H.next):Dj w v':=fun k h1 h2=>by have :=hw.1.aCb h1;rw[h] at h2;cases h2;omega
structure R4 (H:aA) (p q r t:Nat) (a b c d:AV) (ea eb ec ed:List (List AV)):Prop where
 oa:nB H p a ea
 ob:nB H q b eb
 oc:nB H r c ec
 od:nB H t d ed
 ab:Dj a b
 ac:Dj a c
 ad:Dj a d
 bc:Dj b c
 bd:Dj b d
 cd:Dj c d
theorem R4.s1 {H:aA} {p q r t:Nat} {a b c d:AV} {ea eb ec ed:List (List AV)} (h:R4 H p q r t a b c d ea eb ec ed):R4 H q p r t b a c d eb ea ec ed:=⟨h.ob,h.oa,h.oc,h.od,h.ab.symm,h.bc,h.bd,h.ac,h.ad,h.cd⟩
theorem R4.s2 {H:aA} {p q r t:Nat} {a b c d:AV} {ea eb ec ed:List (List AV)} (h:R4 H p q r t a b c d ea eb ec ed):R4 H r q p t c b a d ec eb ea ed:=⟨h.oc,h.ob,h.oa,h.od,h.bc.symm,h.ac.symm,h.cd,h.ab.symm,h.bd,h.ad⟩
theorem R4.s3 {H:aA} {p q r t:Nat} {a b c d:AV} {ea eb ec ed:List (List AV)} (h:R4 H p q r t a b c d ea eb ec ed):R4 H t q r p d b c a ed eb ec ea:=⟨h.od,h.ob,h.oc,h.oa,h.bd.symm,h.cd.symm,h.ad.symm,h.bc,h.ab.symm,h.ac.symm⟩
theorem R4.app {H:aA} {p q r t:Nat} {a b c d:AV} {ea eb ec ed:List (List AV)} (h:R4 H p q r t a b c d ea eb ec ed) {bytes:Nat} {e:List AV} (hb:(ea.length+1)*bytes<=2^40):
 ∃a' H2,eF H p bytes false a [e]=some (a',H2)/\R4 H2 p q r t a' b c d (ea++[e]) eb ec ed/\XB H H2 a:=by
 obtain⟨a',H2,ha,o2,hg⟩:=h.oa.append hb;have ht:=aDn h.oa.1 ha;exact⟨a',H2,ha,⟨o2,Own.other hg h.ob h.ab.symm,Own.other hg h.oc h.ac.symm,Own.other hg h.od h.ad.symm,(Dj.new h.ob ht).symm,(Dj.new h.oc ht).symm,(Dj.new h.od ht).symm,h.bc,h.bd,h.cd⟩,hg⟩
theorem R4.set {H:aA} {p q r t:Nat} {a b c d:AV} {ea eb ec ed:List (List AV)} (h:R4 H p q r t a b c d ea eb ec ed) {id:Nat} {cs:List AV} {o:Bool} (hg:H.get id=some (.cells cs o)) (ob:fE):R4 (H.set id ob) p q r t a b c d ea eb ec ed:=
 ⟨⟨h.oa.1.set id ob (h.oa.1.YQ hg),h.oa.2⟩,⟨h.ob.1.set id ob (h.ob.1.YQ hg),h.ob.2⟩,⟨h.oc.1.set id ob (h.oc.1.YQ hg),h.oc.2⟩,⟨h.od.1.set id ob (h.od.1.YQ hg),h.od.2⟩,h.ab,h.ac,h.ad,h.bc,h.bd,h.cd⟩
structure StP (HA:aA) (w:List AV) (H:aA) (a b c d:AV) (ea eb ec ed:List (List AV)):Prop where
 r:R4 H 1 7 3 3 a b c d ea eb ec ed
 g:H.get 4=some (.cells (a::b::c::d::w) false)
 j:∀j,j<4->H.get j=HA.get j
 n:5<=H.next
theorem StP.aft {HA:aA} {w:List AV} {H H2:aA} {a b c d a' b' c' d':AV} {ea eb ec ed ea' eb' ec' ed':List (List AV)} (h:StP HA w H a b c d ea eb ec ed) (hc:∀j,j<4->∃cs o,HA.get j=some (.cells cs o))
 (k:R4 H2 1 7 3 3 a' b' c' d' ea' eb' ec' ed') {sz:Nat} {v:AV} {els:List (List AV)} (hg:XB H H2 v) (ho:Own H sz v els):
 StP HA w (H2.set 4 (.cells (a'::b'::c'::d'::w) false)) a' b' c' d' ea' eb' ec' ed'/\H2.get 4=some (.cells (a::b::c::d::w) false)/\H.next<=H2.next:=by
 have z4:=hg.cells ho h.n h.g;refine⟨⟨k.set z4 _,by rw[aA.aC,if_pos rfl],fun j hj=>?_,by rw[aA.aW];exact Cb h.n hg.next⟩,z4,hg.next⟩;obtain⟨cs,o,hcj⟩:=hc j hj;rw[aA.aC,if_neg (by omega),hg.cells ho (by have :=h.n;omega) ((h.j j hj).trans hcj),hcj]
def PQ (ts:List Th) (r u:Nat):Sc:=⟨Ma 1 (bE (jI ts.length)),Ma 7 (cC (iP ts)),Ma 3 (cC (pO ts.length)),Ma 3 (cC (pO ts.length)),.aU 0 1 (bE (jI r)),.aU 0 1 (bE (jI u)),
 jI ts.length,iP ts,pO ts.length,pO ts.length,jI r,jI u⟩
theorem oz {ts:List Th} {r u:Nat} (ht:∀t∈ts,t.OK) (hn:ts.length<2^30) (hr:r<2^30) (hu:u<2^30):(PQ ts r u).OK:=by have h:=Ry ht hn hr hu;exact⟨pL _ _,pL _ _,pL _ _,pL _ _,h.ta,h.ac,h.p7,h.v3,h.w3,h.aU,h.lps,h.lvs,h.lws,h.lta,h.lac⟩
theorem nv {g r0 r1:Int} {ts:List Th} {rs us:List (List Int)} {tv rv uv:AV} (sH:lO tv 14 (uH ts)) (uY:lO rv 8 (cC rs)) (zF:lO uv 10 (cC us)) (ht:∀t∈ts,t.OK) (MR:ts.length<2^30) (VM:rs.length<2^30) (hul:us.length<2^30) (H:aA):
 Sg 19 [.agg (yC g r0 r1 tv rv uv)] H (.ret (.agg (PQ ts rs.length us.length).cs)) H:=by
 refine dL fit eU bEw (Aj rfl) (by simp only[yC,sf,sH.free (kE ht),uY.free (bU _),zF.free (bU _)]) ?_ H;unfold W19;dsimp only;have lt:=sH.len;have lr:=uY.len;have lu:=zF.len;simp only[cX] at lt lr lu;rw[dE] at lt;rw[bG] at lr lu;refine bQ ?_;simp only[↓zP,zJ,seval,yC];refine fM ?_;have s3:1*rs.length<=2^40:=by omega
 have s4:1*us.length<=2^40:=by omega
 refine lN 3 (by decide) (by simp only[mQ,seval,zI,Jc,Df]) fun H1 n1 e1=>?_;simp only[↓zP,zJ,seval,zD,e1,lr];refine xM (m:=rs.length) (by decide) (by simp only[dV,zB,seval]) (by simp only[dV,zB,seval]) s3 rfl ?_;simp only[↓zP,zJ,seval,zD,e1,lu];refine xM (m:=us.length) (by decide) (by simp only[dV,zB,seval]) (by simp only[dV,zB,seval]) s4 rfl ?_;simp only[↓zP,zJ,seval,zD,n1,e1];refine bR ?_;generalize hX:aA.set _ 4 (fE.cells [AV.aS,_,_,_,_,_] false)=HA;have g0:HA.get 0=some (.cells [.int .i64 g,.int .i64 r0,.int .i64 r1,tv,rv,uv] false):=by subst hX;simp only[zI,seval,e1]
 have g1:HA.get 1=some (.cells [.aS,.aS,.aS,.aS,.aS,.aS] false):=by subst hX;simp only[zI,seval,e1]
 have g2:HA.get 2=some (.cells (List.replicate rs.length [AV.bool false]).flatten false):=by subst hX;simp only[zI,seval]
 have g3:HA.get 3=some (.cells (List.replicate us.length [AV.bool false]).flatten false):=by subst hX;simp only[zI,seval]
 have g4:HA.get 4=some (.cells [.aS,.aS,.aS,.aS,.sl 2 1 0 rs.length rs.length,.sl 3 1 0 us.length us.length] false):=by subst hX;simp only[zI,seval]
 have gn:5<=HA.next:=by subst hX;simp only[aA.aW];simp only[zI,seval] at n1;omega
 clear hX e1 n1
 have CR:∀j,j<4->∃cs o,HA.get j=some (.cells cs o):=fun j hj=>by
  match j,hj with
  |0,_=>exact⟨_,_,g0⟩
  |1,_=>exact⟨_,_,g1⟩
  |2,_=>exact⟨_,_,g2⟩
  |3,_=>exact⟨_,_,g3⟩
 refine dT fun f jL=>?_;have f1:f 1=.ref 0 0:=by subst jL;simp only[zB,seval]
 have f2:f 2=.ref 1 0:=by subst jL;simp only[zB,seval]
 have f3:f 3=.ref 4 0:=by subst jL;simp only[zB,seval]
 clear jL;refine aG fun K hK=>?_;simp only[↓zP,zG,seval];refine bN [] (fun i vs H'=>∃a b c d,StP HA [.sl 2 1 0 rs.length rs.length,.sl 3 1 0 us.length us.length] H' a b c d (bE (jI i)) (cC (iP (ts.take i))) (cC (pO i)) (cC (pO i))) 0 ts.length (Az _) (by omega) (by decide) ?_ ?_ ?_ ?_ ?_
 · simp only[zB,seval]
 · have hd:Dj .aS .aS:=fun k h=>by cases h
   exact⟨.aS,.aS,.aS,.aS,⟨⟨.nil _ _,.nil _ _,.nil _ _,.nil _ _,hd,hd,hd,hd,hd,hd⟩,g4,fun _ _=>rfl,gn⟩⟩
 · rintro i f4 H1 h0 hi hk x1 ⟨a,b,c,d,h4⟩;have u1:f4 1=.ref 0 0:=by rw[hk 1 rfl];simp only[zB,seval];exact f1
   have m0:=(h4.j 0 (by decide)).trans g0;simp only[↓zP,zJ,seval,x1,u1,m0,lt];exact tB (by omega)
 · rintro i f4 H1 h0 hi hk x1 ⟨a,b,c,d,h4⟩;have u1:f4 1=.ref 0 0:=by rw[hk 1 rfl];simp only[zB,seval];exact f1
   have u3:f4 3=.ref 4 0:=(by rw[hk 3 rfl];simp only[zB,seval];exact f3);have bEm:tv=.aU 0 14 (uH ts):=sH.aU (i:=i) (by rw[dE];exact hi);have hg:=oQ hi;have pG:=ht _ (Ac hi);have JY:=Th.len pG;have Pe:(iC ts[i].store).length=7:=(by rw[cN,pG.store]);have k7:ts[i].cs.drop 7=iC ts[i].store:=rfl;have nM:iP (ts.take (i+1))=iP (ts.take i)++[ts[i].store]:=(by unfold iP;rw[Al,Ab hi,Cf];rfl);have hlen:(cC (iP (ts.take i))).length<=i:=(by simp[cC,iP];omega);have hlb:(bE (jI i)).length=i:=(by simp[bE,jI]);have hlz:(cC (pO i)).length=i:=(by simp[cC,pO]);rw[nM];generalize ts[i].store=q at *;generalize ts[i]=t at *;refine aF ?_;have eb:bE (jI (i+1))=bE (jI i)++[[.bool false]]:=(by simp[bE,jI,List.replicate_succ']);have er:cC (iP (ts.take i)++[q])=cC (iP (ts.take i))++[iC q]:=(by simp[cC]);have ez:cC (pO (i+1))=cC (pO i)++[[.int .i64 0,.int .i64 0,.int .i64 0]]:=(by simp[cC,pO,List.replicate_succ',iC,zV]);rw[eb,er,ez];clear nM;have m4:=h4.g;obtain⟨a',H2,ha,k2,ga⟩:=h4.r.app (bytes:=1) (e:=[.bool false]) (by omega);obtain⟨h5,z4,_⟩:=h4.aft CR k2 ga h4.r.oa.1;refine aG fun K2 bK=>?_;simp only[↓zP,zJ,seval,u3,m4,eL,ha,z4,k2.oa.one];apply bK;clear bK K2 m4 z4 ha ga k2;generalize H2.set 4 _=H3 at *;have m4:=h5.g;have w0:=(h5.j 0 (by decide)).trans g0;obtain⟨b',H4,hb,k2,gb⟩:=h5.r.s1.app (bytes:=56) (e:=iC q) (by omega);obtain⟨h6,z4,hn⟩:=h5.aft CR k2.s1 gb h5.r.ob.1;refine aG fun K2 bK=>?_;refine Dz ?_;simp only[↓zP,zJ,seval,zD,x1,u1,u3,m4,w0,bEm,aB,dE,hi,hg,k7,oL Pe,eL,hb,z4,k2.oa.one];refine⟨hn,?_⟩;apply bK;clear bK K2 m4 z4 hb gb k2 w0 hn;generalize H4.set 4 _=H5 at *;have m4:=h6.g;obtain⟨c',H6,hc,k2,gc⟩:=h6.r.s2.app (bytes:=24) (e:=[.int .i64 0,.int .i64 0,.int .i64 0]) (by omega);obtain⟨h7,z4,_⟩:=h6.aft CR k2.s2 gc h6.r.oc.1;refine aG fun K2 bK=>?_;simp only[↓zP,zJ,seval,u3,m4,eL,hc,z4,k2.oa.one];apply bK;clear bK K2 m4 z4 hc gc k2;generalize H6.set 4 _=H7 at *;have m4:=h7.g;obtain⟨d',H8,hd,k2,gd⟩:=h7.r.s3.app (bytes:=24) (e:=[.int .i64 0,.int .i64 0,.int .i64 0]) (by omega);obtain⟨h8,z4,_⟩:=h7.aft CR k2.s3 gd h7.r.od.1;simp only[↓zP,zJ,seval,u3,m4,eL,hd,z4,k2.oa.one];exact⟨_,_,_,_,h8⟩
 rintro f4 H1 hk ⟨a,b,c,d,h4⟩;have u3:f4 3=.ref 4 0:=by rw[hk 3 rfl];simp only[zB,seval];exact f3
 have u2:f4 2=.ref 1 0:=by rw[hk 2 rfl];simp only[zB,seval];exact f2
 have m1:=(h4.j 1 (by decide)).trans g1;have m4:=h4.g;have b2:=(h4.j 2 (by decide)).trans g2;have b3:=(h4.j 3 (by decide)).trans g3;have hr4:=h4.r;rw[Ao] at hr4;simp only[↓zP,seval];apply hK;clear hK K;simp only[↓zP,zJ,seval,u3,u2,m4,m1];refine⟨rfl,_,by simp only[↓zP,zR,seval,u2];rfl,?_⟩;refine⟨_,1,rfl,fun nw=>?_⟩;have hr5:=hr4.set m1 (.cells [a,b,c,d,.sl 2 1 0 rs.length rs.length,.sl 3 1 0 us.length us.length] false);have st:∀{id:Nat},id≠1->(H1.set 1 (.cells [a,b,c,d,.sl 2 1 0 rs.length rs.length,.sl 3 1 0 us.length us.length] false)).get id=H1.get id:=fun h=>by rw[aA.aC,if_neg h]
 generalize H1.set 1 _=H2 at *;have s0:fU H2 none nw a=_:=hr5.oa.shut (jJ (GU _)) nw;have s1:fU H2 none nw b=_:=hr5.ob.shut (jJ (bU _)) nw;have s2:fU H2 none nw c=_:=hr5.oc.shut (jJ (bU _)) nw;have s3:fU H2 none nw d=_:=hr5.od.shut (jJ (bU _)) nw;have s5:fU H2 none nw (.sl 2 1 0 rs.length rs.length)=_:=yJ (sz:=1) rfl rfl ((st (by decide)).trans b2) nw;have s6:fU H2 none nw (.sl 3 1 0 us.length us.length)=_:=yJ (sz:=1) rfl rfl ((st (by decide)).trans b3) nw;simp only[mY,gK,MV,s0,s1,s2,s3,s5,s6,Bz,PQ,Sc.cs,<-tp]
def sN (l:List Int):List Nat:=l.flatMap fun x=>rP (QW x)
theorem WB {id off n:Nat} {cs:List AV} {o:Bool} {l:List Int} (hn:l.length=n) (hr:∀x∈l,wE x) (hl:n<2^30) {H:aA} (cZ:id<H.next) (hg:H.get id=some (.cells cs o)) (CR:∀i (h:i<l.length),off+i+1<=cs.length/\cs.getD (off+i) aD=.int .i64 l[i]):
 ∃v H',Over H H'/\Own H' 1 v (dF (sN l))/\(∀k,rN v=some k->H.next<=k)/\Sg 131 [.sl id 1 off n n] H (.ret v) H':=by
 subst hn
 suffices h:FC Tryz.prog gv gh.1.ntmps gh.1.body (fG [.sl id 1 off l.length l.length]) [] H (MZ gh.1.results fun o H'=>∃v,o=.ret v/\Over H H'/\Own H' 1 v (dF (sN l))/\∀k,rN v=some k->H.next<=k) by obtain⟨o,H',⟨v,rfl,hO,ho,ht⟩,hS⟩:=eD fit aVt (Aj rfl) h (by rfl);exact⟨v,H',hO,ho,ht,hS⟩
 unfold gh;dsimp only;refine bQ ?_;simp only[↓zP,zG,seval];refine fM ?_;simp only[↓zP,zG,seval];refine bR ?_;refine aG fun K hK=>?_;simp only[↓zP,zG,seval];refine bN [3] (fun i vs H'=>∃w,vs=[w]/\Over H H'/\Own H' 1 w (dF (sN (l.take i)))/\∀k,rN w=some k->H.next<=k) 0 l.length (Az _) (by omega) (by decide) ?_ ?_ ?_ ?_ ?_
 · simp only[zB,seval]
 · exact⟨.aS,by simp only[sm,zB,seval],.refl H,.nil _ _,fun k h=>by cases h⟩
 · rintro i f H1 h0 hi hk e1 _;have f0:f 0=.sl id 1 off l.length l.length:=by rw[hk 0 rfl];rfl
   simp only[↓zP,zG,seval,e1,f0];exact tB (by omega)
 · rintro i f H1 h0 hi hk e1 ⟨w,lH,hO,ho,nM⟩;simp only[zM] at lH;have f0:f 0=.sl id 1 off l.length l.length:=by rw[hk 0 rfl];rfl
   obtain⟨hle,Pb⟩:=CR i hi;have CT:=(hO.same id cZ).trans hg;have hx:=hr _ (Ac hi);have hc:=dm hx;have RT:=mG (BP hx);have vN:=tQ (l:=l.take i) fun x hx=>hr x (By hx);rw[Cq] at vN;have JW:sN (l.take (i+1))=sN (l.take i)++rP (QW l[i]):=KZ _ hi;rw[JW,gX];have bHy:(sN (l.take i)).length<=10*i:=(by unfold sN;omega);generalize l[i]=x at *;refine aF ?_;simp only[↓zP,zJ,seval,e1,f0,lH,aB,hi,CT,hle,Pb];refine bW (hc _) ?_;obtain⟨w',H',ha,e2,e3⟩:=(ho.alloc .tok).append (bytes:=1) (ys:=dF (rP (QW x))) (by simp only[fZ];omega);simp only[↓zP,zG,seval,cQ,ha];have hO1:=hO.alloc .tok;refine⟨w',rfl,⟨Cb hO1.le e3.next,fun j hj=>?_⟩,e2,fun k hk=>?_⟩
   · rw[e3.get j (fun e=>by have :=nM j e;omega) (Ca hj hO1.le)];exact hO1.same j hj
   rw[UT (tC (JU _)) (ho.alloc .tok) ha] at hk;cases hk;exact hO1.le
 rintro f H1 hk ⟨w,lH,hO,ho,nM⟩;simp only[zM] at lH;rw[Ao] at ho;simp only[↓zP,seval];apply hK;clear hK K;simp only[↓zP,zG,seval,lH];refine⟨rfl,_,by simp only[↓zP,zR,seval];rfl,?_⟩;exact⟨w,rfl,hO,ho,nM⟩
theorem aEj {l:List Int} (h:l≠[]):sN l≠[]:=by
 cases l with
 |nil=>exact absurd rfl h
 |cons x l=>unfold sN;rw[Dr];intro e;exact JU _ (List.append_eq_nil_iff.1 e).1
theorem ux (a b:List Int):sN (a++b)=sN a++sN b:=Fp
theorem HF {l:List Int} (h:∀x∈l,wE x):(sN l).length<=10*l.length:=tQ h
theorem aBc {p:List Int} (h7:p.length=7) (hr:yY p) (H:aA):Sg 93 [.agg (iC p)] H (.ret (.aU (H.next+2) 1 (dF (sN p)))) (H.alloc .tok):=by
 refine mI eU (by simp only[bL,AV.free,jC];rfl) (tC (aEj (by intro e;rw[e] at h7;cases h7))) (kX _) (eD fit bGv (Aj rfl) ?_ (by rfl)) H;unfold W93;dsimp only;have hlen:(iC p).length=7:=by rw[cN,h7]
 refine bQ ?_;simp only[↓zP,zJ,seval];refine bR ?_;generalize hX:(aA.mk 0 .nil).alloc _=HA;have g0:HA.get 0=some (.cells (iC p) false):=by subst hX;simp only[zI,seval]
 have gn:0<HA.next:=by subst hX;simp only[zI,seval]
 clear hX;have h3:(p.take 3).length=3:=by simp;omega
 have h4:(p.drop 3).length=4:=by simp;omega
 obtain⟨v,H2,hO,ho,nM,hS⟩:=WB (id:=0) (off:=0) (n:=3) (l:=p.take 3) h3 (fun x hx=>hr x (By hx)) (by decide) gn g0 (fun i h=>by
  refine⟨by omega,?_⟩
  rw[Cv,gT (by omega)];simp[List.getD,Ab (show i<p.length by omega)])
 have g2:=(hO.same 0 gn).trans g0;have gn2:0<H2.next:=Ca gn hO.le
 obtain⟨w,H3,hO2,qm,bIh,hS2⟩:=WB (id:=0) (off:=3) (n:=4) (l:=p.drop 3) h4 (fun x hx=>hr x (Du hx)) (by decide) gn2 g2 (fun i h=>by
  refine⟨by omega,?_⟩
  rw[gT (by omega)];simp[List.getD,Ab (show 3+i<p.length by omega)])
 have sl1:=Tk (n:=3) (sz:=1) (off:=0) g0 (by decide) (by omega);have sl2:=Tk (n:=4) (sz:=1) (off:=3) g2 (by decide) (by omega);refine dT fun f jL=>?_;have f1:f 1=.ref 0 0:=by subst jL;simp only[zB,seval]
 clear jL;refine bQ ?_;refine Dz ?_;simp only[↓zP,zJ,seval,zD,f1,dQ,sl1];apply nA (hS:=hS)
 · decide
 · simp only[sm,zB,seval]
 · exact hO.le
 · intro x hx _;simp only[Ap,Br,Dq] at hx;subst hx;exact(hO.same 0 gn).symm
 simp only[↓zP,zJ,seval,zD,f1,dQ,sl2];refine⟨(hO.same 0 gn).symm,?_⟩;apply nA (hS:=hS2)
 · decide
 · simp only[sm,zB,seval]
 · exact hO2.le
 · intro x hx _;simp only[Ap,Br,Dq] at hx
   rcases hx with rfl|rfl<;>exact(hO2.same 0 gn2).symm
 have e37:sN p=sN (p.take 3)++sN (p.drop 3):=by rw[<-ux,Gb]
 have hvt:∀k,rN v=some k->k<H2.next:=fun k hk=>ho.aCb hk
 have hov:Own H3 1 v (dF (sN (p.take 3))):=by
  rcases ho with h|⟨k,h1,h2,h3⟩
  · exact .inl h
  exact .inr ⟨k,h1,Ca h2 hO2.le,by rw[hO2.same k h2];exact h3⟩
 have l3:=HF (l:=p.take 3) fun x hx=>hr x (By hx);have l4:=HF (l:=p.drop 3) fun x hx=>hr x (Du hx);rw[h3] at l3;rw[h4] at l4;obtain⟨v',H4,ha,ho4,VI⟩:=hov.append (bytes:=1) (ys:=dF (sN (p.drop 3))) (by simp only[fZ];omega)
 have Sw:cQ H3 1 w=some (dF (sN (p.drop 3))):=by
  rcases qm with ⟨rfl,h⟩|⟨k,rfl,_⟩
  · rw[h];rfl
  rfl
 simp only[↓zP,zJ,seval,zD,Sw,ha];refine⟨VI.next,?_⟩;refine bR ?_;simp only[↓zP,seval];refine Rx ?_;exact⟨v',rfl,by rw[e37,gX];exact ho4⟩
def HG (l:List (List Int)):List Nat:=rP (QW l.length)++l.flatMap sN
theorem uy (l:List (List Int)):HG l≠[]:=by unfold HG;intro h;exact JU _ (List.append_eq_nil_iff.1 h).1
theorem KY:∀{l:List (List Int)},(∀p∈l,p.length=7/\yY p)->(l.flatMap sN).length<=70*l.length
 |[],_=>by simp
 |x::l,h=>by have h1:=KY (l:=l) fun y hy=>h y (Ay _ hy);obtain⟨h2,h3⟩:=h x Ax;have h4:=HF h3;rw[Dr,Au,Aq];omega
theorem nr {v:AV} {l:List (List Int)} (hv:lO v 7 (cC l)) (hr:∀p∈l,p.length=7/\yY p) (hl:l.length<2^30) (H:aA):Sg 58 [v] H (.ret (.aU (H.next+2) 1 (dF (HG l)))) (H.alloc .tok):=by
 refine mI eU (by simp only[bL,hv.free (bU _)];rfl) (tC (uy _)) (kX _) (eD fit bFv (Aj rfl) ?_ (by rfl)) H;unfold W58;dsimp only;have lv:=hv.len;simp only[cX] at lv;rw[bG] at lv;have hn:=dm (BT (n:=l.length) (by omega));refine bQ ?_;simp only[↓zP,zG,seval];refine fM ?_;simp only[↓zP,zJ,seval,lv];refine bW (hn _) ?_;simp only[↓zP,zJ,seval];refine bR ?_;refine aG fun K hK=>?_;simp only[↓zP,zG,seval];refine bN [3] (fun i vs H'=>∃w,vs=[w]/\Own H' 1 w (dF (rP (QW l.length)++(l.take i).flatMap sN))) 0 l.length (Az _) (by omega) (by decide) ?_ ?_ ?_ ?_ ?_
 · simp only[zB,seval]
 · exact⟨_,by simp only[sm,zB,seval];rfl,by simp only[Es,List.flatMap_nil,Cd];exact Own.fresh _ _ _⟩
 · rintro i f H1 h0 hi hk e1 _;have f0:f 0=v:=by rw[hk 0 rfl];rfl
   simp only[↓zP,zG,seval,e1,f0,lv];exact tB (by omega)
 · rintro i f H1 h0 hi hk e1 ⟨w,lH,ho⟩;simp only[zM] at lH;have f0:f 0=.aU 0 7 (cC l):=(hk 0 rfl).trans (hv.aU (i:=i) (by rw[bG];exact hi));have hg:=dY hi;obtain⟨h7,hx⟩:=hr _ (Ac hi);have hc:=aBc h7 hx;have RT:=HF hx;have vN:=KY (l:=l.take i) fun x hx=>hr x (By hx);rw[Cq] at vN;have hnl:=mG (BP (BT (n:=l.length) (by omega)));rw[KZ _ hi,<-Di,gX];have Pe:(iC l[i]).length=7:=by rw[cN,h7]
   generalize l[i]=x at *;refine aF ?_;simp only[↓zP,zJ,seval,e1,f0,lH,aB,bG,hi,hg,oL Pe];refine bW (hc _) ?_;obtain⟨w',H',ha,e2,e3⟩:=(ho.alloc .tok).append (bytes:=1) (ys:=dF (sN x)) (by simp only[fZ,Au];omega);simp only[↓zP,zG,seval,cQ,ha];exact⟨w',by simp only[seval],e2⟩
 rintro f H1 hk ⟨w,lH,ho⟩;simp only[zM] at lH;rw[Ao] at ho;simp only[↓zP,seval];apply hK;clear hK K;simp only[↓zP,zG,seval,lH];refine⟨rfl,_,by simp only[↓zP,zR,seval];rfl,?_⟩;exact⟨w,rfl,ho⟩
def Ur (b:Bool):Int:=if b then 1 else 0
def fK (l:List Bool):List Int:=l.map Ur
theorem BX (l:List Bool):∀x∈fK l,wE x:=fun x hx=>by obtain⟨b,_,rfl⟩:=Bf.1 hx;cases b<;>exact⟨by decide,by decide⟩
theorem LK {v:AV} {l:List Bool} (hv:lO v 1 (bE l)) (hl:l.length<2^30) (H:aA):Sg 57 [v] H (.ret (Ma 1 (eY (fK l)))) H:=by
 refine dL fit eU bFu (Aj rfl) (by simp only[bL,hv.free (GU _)];rfl) ?_ H;unfold W57;dsimp only;have lv:=hv.len;simp only[cX] at lv;rw[iJ] at lv;refine bQ ?_;simp only[↓zP,zG,seval];refine fM ?_;simp only[↓zP,zG,seval];refine bR ?_;refine aG fun K hK=>?_;simp only[↓zP,zG,seval];refine bN [3] (fun i vs H'=>∃w,vs=[w]/\nB H' 1 w (eY (fK (l.take i)))) 0 l.length (Az _) (by omega) (by decide) ?_ ?_ ?_ ?_ ?_
 · simp only[zB,seval]
 · exact⟨.aS,by simp only[sm,zB,seval],.nil _ _⟩
 · rintro i f H1 h0 hi hk e1 _;have f0:f 0=v:=by rw[hk 0 rfl];rfl
   simp only[↓zP,zG,seval,e1,f0,lv];exact tB (by omega)
 · rintro i f H1 h0 hi hk e1 ⟨w,lH,ho⟩;simp only[zM] at lH;have f0:f 0=.aU 0 1 (bE l):=(hk 0 rfl).trans (hv.aU (i:=i) (by rw[iJ];exact hi));have hg:=GV hi;have nM:fK (l.take (i+1))=fK (l.take i)++[Ur l[i]]:=by unfold fK;rw[Al,Ab hi,Cf];rfl
   have xr:(fK (l.take i)).length<=i:=(by simp[fK];omega);rw[nM,sR];generalize l[i]=b at *;obtain⟨w',H',ha,e2,e3⟩:=ho.append (bytes:=8) (e:=[.int .i64 (Ur b)]) (by rw[dX];omega);refine aF ?_;cases b
   · rw[show Ur false=0 from rfl] at ha;simp only[↓zP,zJ,seval,e1,f0,lH,aB,iJ,hi,hg,eL,ha];exact⟨w',by simp only[seval],e2⟩
   rw[show Ur true=1 from rfl] at ha;simp only[↓zP,zJ,seval,e1,f0,lH,aB,iJ,hi,hg,eL,ha];exact⟨w',by simp only[seval],e2⟩
 rintro f H1 hk ⟨w,lH,ho⟩;simp only[zM] at lH;rw[Ao] at ho;simp only[↓zP,seval];apply hK;clear hK K;simp only[↓zP,zG,seval,lH];refine⟨rfl,_,by simp only[↓zP,zR,seval];rfl,?_⟩;exact⟨w,0,rfl,fun nw=>ho.shut (jJ (IJ _)) nw⟩
def bh (l:List Int):AV:=if l=[] then .aU 1 1 [] else .aU 0 1 (eY l)
theorem Us:∀{l:List (List Int)},(∀w∈l,w.length=3)->l.flatten.length=3*l.length
 |[],_=>rfl
 |x::l,h=>by have h1:=Us (l:=l) fun y hy=>h y (Ay _ hy);have h2:=h x Ax;rw[Bx,Au,Aq];omega
theorem WC {v:AV} {l:List (List Int)} (hv:lO v 3 (cC l)) (h3:∀w∈l,w.length=3) (hl:l.length<2^30) (H:aA):Sg 59 [.aS,v] H (.ret (bh l.flatten)) H:=by
 refine dL fit eU bFw (Aj rfl) (by simp only[bL,AV.free,hv.free (bU _)];rfl) ?_ H;unfold W59;dsimp only;have lv:=hv.len;simp only[cX] at lv;rw[bG] at lv;refine bQ ?_;simp only[↓zP,zG,seval];refine bR ?_;have hap:∀H:aA,eF H 1 8 false (.aU 1 1 []) []=some (.aU 1 1 [],H):=fun _=>rfl;refine bQ ?_;simp only[↓zP,zJ,seval,cQ,hap];refine bR ?_;refine aG fun K hK=>?_;simp only[↓zP,zG,seval];refine bN [5] (fun i vs H'=>∃w,vs=[w]/\(((l.take i).flatten=[]/\w=.aU 1 1 [])\/((l.take i).flatten≠[]/\Own H' 1 w (eY (l.take i).flatten)))) 0 l.length (Az _) (by omega) (by decide) ?_ ?_ ?_ ?_ ?_
 · simp only[zB,seval]
 · exact⟨.aU 1 1 [],by simp only[sm,zB,seval],.inl ⟨rfl,rfl⟩⟩
 · rintro i f H1 h0 hi hk e1 _;have f1:f 1=v:=by rw[hk 1 rfl];rfl
   simp only[↓zP,zG,seval,e1,f1,lv];exact tB (by omega)
 · rintro i f H1 h0 hi hk e1 ⟨w,lH,ho⟩;simp only[zM] at lH;have f1:f 1=.aU 0 3 (cC l):=(hk 1 rfl).trans (hv.aU (i:=i) (by rw[bG];exact hi));have hg:=dY hi;have hx3:=h3 _ (Ac hi);have vN:=Us (l:=l.take i) fun x hx=>h3 x (By hx);rw[Cq] at vN;have nM:(l.take (i+1)).flatten=(l.take i).flatten++l[i]:=by rw[Al,Ab hi,Fo];simp
   rw[nM];generalize l[i]=x at *;generalize (l.take i).flatten=o at *
   have IF:∀H:aA,mO H 3 1 (.pl (iC x)) none none none=some (.aU 1 1 (eY x)):=fun H=>by
    match x,hx3 with
    |[a,b,c],_=>rfl
   have cK:o++x≠[]:=fun e=>by rw[(List.append_eq_nil_iff.1 e).2] at hx3;cases hx3
   have RT:(eY x).length=3:=by rw[dX,hx3]
   have iE:∃w' H2,eF H1 1 8 false w (eY x)=some (w',H2)/\Own H2 1 w' (eY (o++x)):=by
    rcases ho with ⟨h,rfl⟩|⟨_,ho⟩
    · refine⟨.aU (H1.next+2) 1 (eY x),H1.alloc .tok,?_,by rw[h];exact Own.fresh _ _ _⟩;unfold eF;rw[if_neg (by intro e;rw[List.isEmpty_iff] at e;rw[e] at RT;cases RT)];simp only[Bj,Cv,RT];rw[if_pos ⟨trivial,by decide⟩];rfl
    obtain⟨w',H2,ha,e2,_⟩:=ho.append (bytes:=8) (ys:=eY x) (by rw[RT,dX];omega);exact⟨w',H2,ha,by rw[sR];exact e2⟩
   obtain⟨w',H2,ha,e2⟩:=iE;refine aF ?_;simp only[↓zP,zJ,seval,e1,f1,lH,aB,bG,hi,hg,dQ,IF,cQ,ha];exact⟨w',by simp only[seval],.inr ⟨cK,e2⟩⟩
 rintro f H1 hk ⟨w,lH,ho⟩;simp only[zM] at lH;rw[Ao] at ho;simp only[↓zP,seval];apply hK;clear hK K;simp only[↓zP,zG,seval,lH];refine⟨rfl,_,by simp only[↓zP,zR,seval];rfl,?_⟩;refine⟨w,0,rfl,fun nw=>?_⟩;unfold bh
 rcases ho with ⟨h,rfl⟩|⟨h,ho⟩
 · rw[if_pos h];rfl
 rw[if_neg h];have cK:eY l.flatten≠[]:=fun e=>h (Hl.1 e);refine Has.shut (.inr ho) cK (fun e=>?_) (jJ (IJ _)) nw
 rcases ho with ⟨h1,h2⟩|⟨k,h1,_⟩
 · exact cK h2
 rw[h1] at e;cases e
theorem LH {l:List Bool} (hl:l.length<2^30) (H:aA):Sg 56 [Ma 1 (eY (fK l))] H (.ret (.aU (H.next+2) 1 (dF (eP (fK l))))) (H.alloc .tok):=
 Yh (pL _ _) (BX l) (by simp[fK];omega) H
theorem Vu {l:List (List Int)} (h3:∀w∈l,w.length=3/\yY w) (hl:l.length<2^30) (H:aA):Sg 56 [bh l.flatten] H (.ret (.aU (H.next+2) 1 (dF (eP l.flatten)))) (H.alloc .tok):=by
 have Nr:∀x∈l.flatten,wE x:=fun x hx=>by obtain⟨w,hw,hx⟩:=Iq.1 hx;exact(h3 w hw).2 x hx
 have hf:=Us fun w hw=>(h3 w hw).1;unfold bh;split
 · rename_i h;rw[h];exact(Yh (v:=.aU 0 1 []) (l:=[]) (.inr rfl) (fun x hx=>by cases hx) (by decide) H).CV 1
 exact Yh (.inr rfl) Nr (by omega) H
def Sl (s:Sc):List Nat:=eP (fK s.st)++HG s.ps++eP s.vs.flatten++eP s.ws.flatten++eP (fK s.ta)++eP (fK s.ac)
theorem rA {l:List Int} (h:∀x∈l,wE x) (hl:l.length<2^33):(eP l).length<=10+10*l.length:=by have h1:=tQ h;have h2:=mG (BP (BT (n:=l.length) (by omega)));unfold eP;rw[Au];omega
theorem jh {l:List (List Int)} (h:∀p∈l,p.length=7/\yY p) (hl:l.length<2^30):(HG l).length<=10+70*l.length:=by have h1:=KY h;have h2:=mG (BP (BT (n:=l.length) (by omega)));unfold HG;rw[Au];omega
theorem Zg {s:Sc} (hs:s.OK) (H:aA):Sg 38 [.agg s.cs] H (.ret (.aU (H.next+2) 1 (dF (Sl s)))) (H.alloc .tok):=by
 refine mI eU (by simp only[bL,AV.free,Sc.free hs];rfl) (tC (by unfold Sl;simp[Ng])) (kX _) (eD fit bFh (Aj rfl) ?_ (by rfl)) H;unfold W38;dsimp only;have c1:=LK hs.st hs.aU;have c2:=LH hs.aU;have c3:=nr hs.ps hs.p7 hs.lps;have c4:=WC hs.vs (fun w hw=>(hs.v3 w hw).1) hs.lvs;have c5:=Vu hs.v3 hs.lvs;have c6:=WC hs.ws (fun w hw=>(hs.w3 w hw).1) hs.lws;have c7:=Vu hs.w3 hs.lws;have c8:=LK hs.ta hs.lta;have c9:=LH hs.lta;have c10:=LK hs.ac hs.lac;have c11:=LH hs.lac;have e1:(eP (fK s.st)).length<=10+10*2^30:=by have :=rA (BX s.st) (by have :=hs.aU;simp[fK];omega);have :=hs.aU;simp[fK] at *;omega
 have e2:(HG s.ps).length<=10+70*2^30:=by have :=jh hs.p7 hs.lps;have :=hs.lps;omega
 have e3:(eP s.vs.flatten).length<=10+30*2^30:=by
  have hf:=Us fun w hw=>(hs.v3 w hw).1
  have :=rA (l:=s.vs.flatten) (fun x hx=>by
   obtain⟨w,hw,hx⟩:=Iq.1 hx
   exact(hs.v3 w hw).2 x hx) (by have :=hs.lvs;omega)
  have :=hs.lvs;omega
 have e4:(eP s.ws.flatten).length<=10+30*2^30:=by
  have hf:=Us fun w hw=>(hs.w3 w hw).1
  have :=rA (l:=s.ws.flatten) (fun x hx=>by
   obtain⟨w,hw,hx⟩:=Iq.1 hx
   exact(hs.w3 w hw).2 x hx) (by have :=hs.lws;omega)
  have :=hs.lws;omega
 have e5:(eP (fK s.ta)).length<=10+10*2^30:=by have :=rA (BX s.ta) (by have :=hs.lta;simp[fK];omega);have :=hs.lta;simp[fK] at *;omega
 have e6:(eP (fK s.ac)).length<=10+10*2^30:=by have :=rA (BX s.ac) (by have :=hs.lac;simp[fK];omega);have :=hs.lac;simp[fK] at *;omega
 have hE:Sl s=eP (fK s.st)++HG s.ps++eP s.vs.flatten++eP s.ws.flatten++eP (fK s.ta)++eP (fK s.ac):=rfl;generalize eP (fK s.st)=a1 at *;generalize HG s.ps=a2 at *;generalize eP s.vs.flatten=a3 at *;generalize eP s.ws.flatten=a4 at *;generalize eP (fK s.ta)=a5 at *;generalize eP (fK s.ac)=a6 at *;refine bQ ?_;simp only[↓zP,zJ,seval,Sc.cs];refine bR ?_;generalize hX:(aA.mk 0 .nil).alloc _=HA;have g0:HA.get 0=some (.cells [s.sv,s.pv,s.vv,s.wv,s.tv,s.av] false):=by subst hX;simp only[zI,seval]
 have gn:0<HA.next:=by subst hX;simp only[zI,seval]
 clear hX;refine dT fun f jL=>?_;have f1:f 1=.ref 0 0:=by subst jL;simp only[zB,seval]
 clear jL;refine aG fun K hK=>?_;refine Dz ?_;simp only[↓zP,zJ,seval,zD,f1,g0];refine eE (c1 _) ?_;have cK:¬(0=HA.next):=by omega
 simp only[seval];apply nA (hS:=c2 _)
 · decide
 · simp only[sm,zB,seval]
 · simp only[aA.aZ];omega
 · intro x hx _;simp only[Ap,Br,Dq] at hx;subst hx;rw[aA.aJ,if_neg cK]
 simp only[↓zP,zJ,seval,zD,f1,g0,cK];apply nA (hS:=c3 _)
 · decide
 · simp only[sm,zB,seval]
 · simp only[aA.aZ];omega
 · intro x hx _;simp only[Ap,Br,Dq] at hx
   rcases hx with rfl|rfl<;>(refine Eq.symm ?_;rw[aA.aJ,if_neg (by simp only[aA.aZ];omega)])
 have o1:Own ((HA.alloc .tok).alloc .tok) 1 (.aU (HA.next+2) 1 (dF a1)) (dF a1):=(Own.fresh HA 1 _).alloc .tok;have gA:((HA.alloc .tok).alloc .tok).get 0=some (.cells [s.sv,s.pv,s.vv,s.wv,s.tv,s.av] false):=by rw[aA.aJ,if_neg (by simp only[aA.aZ];omega),aA.aJ,if_neg cK];exact g0
 have gB:0<((HA.alloc .tok).alloc .tok).next:=by simp only[aA.aZ];omega
 obtain⟨w1,H1,ha1,o2,gr⟩:=o1.append (bytes:=1) (ys:=dF a2) (by simp only[fZ];omega);have m0:=gr.cells o1 gB gA;have mn:=Ca gB gr.next;rw[<-gX] at o2;simp only[↓zP,zJ,seval,zD,cQ,ha1];refine⟨gr.next,?_⟩;apply hK;clear hK K o1 gA gB gr ha1 cK g0 gn
 have iE:∀{H:aA} {w:AV} {pre b:List Nat},0<H.next->H.get 0=some (.cells [s.sv,s.pv,s.vv,s.wv,s.tv,s.av] false)->Own H 1 w (dF pre)->pre.length+b.length<=2^40->
  ∃w' H',eF (H.alloc .tok) 1 1 false w (dF b)=some (w',H')/\Own H' 1 w' (dF (pre++b))/\0<H'.next/\H'.get 0=some (.cells [s.sv,s.pv,s.vv,s.wv,s.tv,s.av] false):=by
  intro H w pre b hn hg ho hl;have Kn:(H.alloc .tok).get 0=some (.cells [s.sv,s.pv,s.vv,s.wv,s.tv,s.av] false):=by rw[aA.aJ,if_neg (by omega)];exact hg
  have KA:0<(H.alloc .tok).next:=by simp only[aA.aZ];omega
  obtain⟨w',H',ha,o,gr⟩:=(ho.alloc .tok).append (bytes:=1) (ys:=dF b) (by simp only[fZ];omega);exact⟨w',H',ha,by rw[gX];exact o,Ca KA gr.next,gr.cells (ho.alloc .tok) KA Kn⟩
 have l12:(a1++a2).length<=20+80*2^30:=by rw[Au];omega
 generalize a1++a2=p1 at *;obtain⟨w2,H2,ha2,o3,n2,m2⟩:=iE (b:=a3) mn m0 o2 (by omega);refine bQ ?_;simp only[↓zP,zJ,seval,f1,m0];refine bW (c4 _) ?_;refine bW (c5 _) ?_;simp only[↓zP,zG,seval,cQ,ha2];refine bR ?_;have l2:(p1++a3).length<=30+110*2^30:=by rw[Au];omega
 generalize p1++a3=p2 at *;obtain⟨w3,H3,ha3,o4,n3,m3⟩:=iE (b:=a4) n2 m2 o3 (by omega);refine bQ ?_;simp only[↓zP,zJ,seval,f1,m2];refine bW (c6 _) ?_;refine bW (c7 _) ?_;simp only[↓zP,zG,seval,cQ,ha3];refine bR ?_;have l3:(p2++a4).length<=40+140*2^30:=by rw[Au];omega
 generalize p2++a4=p3 at *;obtain⟨w4,H4,ha4,o5,n4,m4⟩:=iE (b:=a5) n3 m3 o4 (by omega);refine bQ ?_;simp only[↓zP,zJ,seval,f1,m3];refine bW (c8 _) ?_;refine bW (c9 _) ?_;simp only[↓zP,zG,seval,cQ,ha4];refine bR ?_;have l4:(p3++a5).length<=50+170*2^30:=by rw[Au];omega
 generalize p3++a5=p4 at *;obtain⟨w5,H5,ha5,o6,n5,m5⟩:=iE (b:=a6) n4 m4 o5 (by omega);simp only[↓zP,zJ,seval,f1,m4];refine bW (c10 _) ?_;refine bW (c11 _) ?_;simp only[↓zP,zG,seval,cQ,ha5];refine Rx ?_;exact⟨w5,rfl,by rw[hE];exact o6⟩
def qX (l:List Nat):List UInt8:=l.map fun n=>UInt8.ofNat n
theorem Qf:∀l:List Nat,bytesOf (dF l)=some (qX l)
 |[]=>rfl
 |n::l=>by have h:=Qf l;simp only[dF,qX,Bv,bytesOf] at h ⊢;rw[h];rfl
theorem aBe {a b:Nat} {l m:List Nat} (H:aA):Sg 37 [.aU a 1 (dF l),.aU b 1 (dF m)] H (.ret (.bool (qX l==qX m))) H:=by refine kQ bFg (Aj rfl) ?_ (by rfl);unfold W37;dsimp only;simp only[↓zP,zJ,seval,cQ,Qf,show ∀x y:List UInt8,tt .eql x y=some (.bool (x==y)) from fun _ _=>rfl];refine Rx ?_;exact⟨rfl,rfl⟩
theorem aBj {s t:Sc} (hs:s.OK) (ht:t.OK) (H:aA):Sg 17 [.agg s.cs,.agg t.cs] H (.ret (.bool (qX (Sl s)==qX (Sl t)))) H:=by
 refine So bEv (by simp only[bL,AV.free,Sc.free hs,Sc.free ht];rfl) ?_ H;unfold W17;dsimp only;have h1:=Zg hs;have h2:=Zg ht;have l1:s.cs.length=6:=rfl;have l2:t.cs.length=6:=rfl;refine bQ ?_;simp only[↓zP,zJ,seval];refine bR ?_;generalize hX:((aA.mk 0 .nil).alloc _).alloc _=HA;have g0:HA.get 0=some (.cells s.cs false):=by subst hX;simp only[zI,seval]
 have g1:HA.get 1=some (.cells t.cs false):=by subst hX;simp only[zI,seval]
 have gn:1<HA.next:=by subst hX;simp only[zI,seval]
 clear hX;have bDs:¬(0=HA.next):=by omega
 have bDt:¬(1=HA.next):=by omega
 refine dT fun f jL=>?_;have f2:f 2=.ref 0 0:=by subst jL;simp only[zB,seval]
 have f3:f 3=.ref 1 0:=by subst jL;simp only[zB,seval]
 clear jL;refine bQ ?_;refine Dz ?_;simp only[↓zP,zJ,seval,zD,f2,g0,oL l1];apply nA (hS:=h1 _)
 · decide
 · simp only[sm,zB,seval]
 · simp only[aA.aZ];omega
 · intro x hx _;simp only[Ap,Br,Dq] at hx;subst hx;rw[aA.aJ,if_neg bDs]
 simp only[↓zP,zJ,seval,zD,f3,g1,oL l2,bDt];apply nA (hS:=h2 _)
 · decide
 · simp only[sm,zB,seval]
 · simp only[aA.aZ];omega
 · intro x hx _;simp only[Ap,Br,Dq] at hx
   rcases hx with rfl|rfl<;>(refine Eq.symm ?_;rw[aA.aJ,if_neg (by simp only[aA.aZ];omega)])
 refine eE (aBe (a:=HA.next+2) (b:=(HA.alloc fE.tok).next+2) (l:=Sl s) (m:=Sl t) _) ?_;simp only[↓zP,zJ,seval,zD];refine bR ?_;simp only[↓zP,seval];refine Rx ?_;rfl
def W3T:{x // LA Tryz.prog DH false Tryz.f3=some x}:=⟨_,Mq⟩
theorem bFi:kP Tryz.prog DH false 3 W3T.1:=iZ Tryz.func3 (by kernel_rfl) W3T.2
theorem aFn (aRh:∀H,St 5 [] H (.ret (.bool true)) H) {g r0 r1 k n:Int} {ts:List Th} {rs us ps:List (List Int)} {tv rv uv pv:AV} {s:Sc}
 (sH:lO tv 14 (uH ts)) (uY:lO rv 8 (cC rs)) (zF:lO uv 10 (cC us)) (Ks:lO pv 7 (cC ps)) (ht:∀t∈ts,t.OK) (hr:∀r∈rs,r.length=8) (hu:∀p∈us,p.length=10)
 (hp:∀p∈ps,p.length=7/\yY p) (qQ:ps.length<2^62) (hs:s.OK) (H:aA):
 St 3 [.agg (yC g r0 r1 tv rv uv),.agg (oC k n pv),.agg s.cs] H (.ret (.bool true)) H:=by
 have fy:bL [AV.agg (yC g r0 r1 tv rv uv)]=true:=by simp only[yC,sf,sH.free (kE ht),uY.free (bU _),zF.free (bU _)]
 have fo:bL [AV.agg (oC k n pv)]=true:=by simp only[oC,sf,Ks.free (bU _)]
 have fs:bL [AV.agg s.cs]=true:=by simp only[bL,AV.free,Sc.free hs];rfl
 have f2:∀{a b:AV},bL [a]=true->bL [b]=true->bL [a,b]=true:=fun ha hb=>by simp only[bL,Fs] at ha hb ⊢;rw[ha,hb];rfl
 refine EF aTp Xm bFi (Aj rfl) (by simp only[bL,Fs] at fy fo fs ⊢;rw[fy,fo,fs];rfl) (by simp only[sf]) ?_ H;unfold W3T;dsimp only;have lt:=sH.len;simp only[cX] at lt;rw[dE] at lt;have l6:(yC g r0 r1 tv rv uv).length=6:=rfl;have l3:(oC k n pv).length=3:=rfl;have ls:s.cs.length=6:=rfl;have k3:(yC g r0 r1 tv rv uv).getD 3 aD=tv:=rfl;have bCi:=Wt fy rfl fun H=>aQg (g:=g) (r0:=r0) (r1:=r1) sH uY zF ht H;have cck:=fun hf=>Wt fy rfl fun H=>pz (g:=g) (r0:=r0) (r1:=r1) sH uY zF ht hf hr hu H;have crk:=fun hf=>Wt fy rfl fun H=>Yv (g:=g) (r0:=r0) (r1:=r1) sH uY zF ht hf hr hu H
 have hf:(Px ts rs.length us.length=true\/¬ts.length<=64)->ts.length<=64->∀t∈ts,t.Few:=fun h Nr=>by
  rcases h with h|h
  · exact(vg h).2.2.2
  exact absurd Nr h
 refine bQ ?_;simp only[↓zP,zJ,seval];refine bR ?_;generalize hX:(((aA.mk 0 .nil).alloc _).alloc _).alloc _=HA;have g0:HA.get 0=some (.cells (yC g r0 r1 tv rv uv) false):=by subst hX;simp only[zI,seval]
 have g1:HA.get 1=some (.cells (oC k n pv) false):=by subst hX;simp only[zI,seval]
 have g2:HA.get 2=some (.cells s.cs false):=by subst hX;simp only[zI,seval]
 clear hX;refine dT fun f jL=>?_;have f3:f 3=.ref 0 0:=by subst jL;simp only[zB,seval]
 have f4:f 4=.ref 1 0:=by subst jL;simp only[zB,seval]
 have f5:f 5=.ref 2 0:=by subst jL;simp only[zB,seval]
 clear jL;refine bQ ?_;simp only[↓zP,zJ,seval,f3,g0,oL l6];refine bW (bCi _) ?_;simp only[↓zP,zG,seval];refine bR ?_;refine aG fun K hK=>?_;generalize hA:jM _ 7 _=fA;have a3:fA 3=.ref 0 0:=by subst hA;simp only[zB,seval,f3]
 have a4:fA 4=.ref 1 0:=by subst hA;simp only[zB,seval,f4]
 have a5:fA 5=.ref 2 0:=by subst hA;simp only[zB,seval,f5]
 have a7:fA 7=.bool (Px ts rs.length us.length):=by subst hA;simp only[zB,seval]
 clear hA f3 f4 f5 f
 have key:∀f:dD,f 3=.ref 0 0->f 4=.ref 1 0->f 5=.ref 2 0->(Px ts rs.length us.length=true\/¬ts.length<=64)->K f [] HA:=by
  intro f f3 f4 f5 VG;have cck:=cck (hf VG);have crk:=crk (hf VG);apply hK;clear hK K;refine bQ ?_;simp only[↓zP,zJ,seval,f3,g0,oL l6];refine bW (cck _) ?_;simp only[↓zP,zG,seval];refine fM ?_;simp only[↓zP,zJ,seval,f3,g0,oL l6];refine bW (crk _) ?_;simp only[↓zP,zG,seval]
  have jz:tN g r0 r1 ts rs us=0->ts.length<=64/\rs.length<=16/\us.length<=16:=fun h=>by
   unfold tN at h;split at h
   · cases h
   rename_i h1;simp only[vA,Fe,Eg,Bk] at h1;omega
  generalize tN g r0 r1 ts rs us=c at *;simp only[Ib,sG,seval];refine bR ?_;refine dT fun f' Zw=>?_;have f3':f' 3=.ref 0 0:=by subst Zw;simp only[zB,seval,f3]
  have Tv:f' 4=.ref 1 0:=by subst Zw;simp only[zB,seval,f4]
  have Mi:f' 5=.ref 2 0:=by subst Zw;simp only[zB,seval,f5]
  have f8':f' 8=.int .i64 c:=by subst Zw;simp only[zB,seval]
  clear Zw f3 f4 f5 f;refine aG fun K hK=>?_;simp only[↓zP,zG,seval,f8'];by_cases hc:c=0
  · obtain⟨b1,b2,b3⟩:=jz hc;subst hc;simp only[Ib,sG,seval];apply hK;clear hK K;refine aG fun K hK=>?_;refine Dz ?_;simp only[↓zP,zJ,seval,zD,f3',Mi,g0,g2,oL l6,oL ls];have c1:=Wt (f2 fy fs) rfl fun H=>aEm (g:=g) (r0:=r0) (r1:=r1) sH uY zF ht hs (by omega) H;have c2:=Wt (f2 fy fs) rfl fun H=>aAs (g:=g) (r0:=r0) (r1:=r1) sH uY zF ht hs (by omega) H;have c3:=Wt fs rfl fun H=>aHg hs H;have c4:=Wt fs rfl fun H=>aBd hs H;have fA:(o7 s).free=true:=(pL 1 (eY (yL s.st 0))).Zm;have c5:=Wt fs fA fun H=>aSz hs H;have c6:=Wt fs fA fun H=>aHk hs H;have c7:=Wt (args:=[o7 s,o7 s]) (by simp only[bL,fA];rfl) rfl fun H=>aBi (pL 1 (eY (yL s.st 0))) (pL 1 (eY (yL s.st 0))) (by have :=JQ s.st 0;have :=hs.aU;omega) H;rw[Af rfl] at c7;generalize HK ts rs.length us.length s=b1 at *;generalize PB s=b2 at *;generalize o7 s=sa at *;refine eE (c1 _) ?_;simp only[↓zP,zJ,seval,zD,f3',Mi,g0,g2,oL l6,oL ls];refine eE (c2 _) ?_;simp only[↓zP,zJ,seval,zD,Mi,g2,oL ls,Hg];refine eE (c3 _) ?_;simp only[↓zP,zJ,seval,zD,Mi,g2,oL ls];refine eE (c4 _) ?_;simp only[↓zP,zJ,seval,zD,Mi,g2,oL ls,Hg];refine eE (c5 _) ?_;simp only[↓zP,zJ,seval,zD,Mi,g2,oL ls];refine eE (c6 _) ?_;simp only[↓zP,zG,seval,zD];refine eE (c7 _) ?_;simp only[↓zP,zJ,seval,zD];apply hK;clear hK K c1 c2 c3 c4 c5 c6 c7;refine dT fun f jL=>?_;have f3:f 3=.ref 0 0:=by subst jL;simp only[zB,seval,f3']
    have f4:f 4=.ref 1 0:=(by subst jL;simp only[zB,seval,Tv]);have f5:f 5=.ref 2 0:=(by subst jL;simp only[zB,seval,Mi]);have f9:f 9=.bool true:=(by subst jL;simp only[zB,seval]);clear jL f3' Tv Mi f8';have k1:=Wt (f2 fy fo) rfl fun H=>aDv (g:=g) (r0:=r0) (r1:=r1) (k:=k) (n:=n) sH uY zF Ks ht hp (by omega) (by omega) qQ H;have k2:=Wt (f2 fy fo) rfl fun H=>aAo (g:=g) (r0:=r0) (r1:=r1) (k:=k) (n:=n) sH uY zF Ks ht (fun p h=>(hp p h).1) qQ H;have o1:=Ry (r:=rs.length) (u:=us.length) ht (by omega) (by omega) (by omega);have o2:=oz (r:=rs.length) (u:=us.length) ht (by omega) (by omega) (by omega);have e1:(AV.agg (kO ts rs.length us.length).cs).free=true:=(by simp only[AV.free,Sc.free o1]);have e2:(AV.agg (PQ ts rs.length us.length).cs).free=true:=(by simp only[AV.free,Sc.free o2]);have k4:=Wt fy e1 fun H=>aBv (g:=g) (r0:=r0) (r1:=r1) sH uY zF ht (by omega) (by omega) (by omega) H;have k5:=Wt fy e2 fun H=>nv (g:=g) (r0:=r0) (r1:=r1) sH uY zF ht (by omega) (by omega) (by omega) H;have k6:=Wt (f2 (by simp only[bL,e1];rfl) (by simp only[bL,e2];rfl)) rfl fun H=>aBj o1 o2 H;rw[show qX (Sl (kO ts rs.length us.length))==qX (Sl (PQ ts rs.length us.length)) from Hg _] at k6;refine aG fun K hK=>?_;refine Dz ?_;simp only[↓zP,seval];refine eE (aRh _) ?_;simp only[↓zP,zJ,seval,zD,f9,f3,f4,g0,g1,oL l6,oL l3];refine eE (k1 _) ?_;simp only[↓zP,zJ,seval,zD,f3,f4,g0,g1,oL l6,oL l3];refine eE (k2 _) ?_;simp only[↓zP,zJ,seval,zD,f3,g0,oL l6,Hg];refine eE (k4 _) ?_;simp only[↓zP,zJ,seval,zD,f3,g0,oL l6];refine eE (k5 _) ?_;simp only[↓zP,zG,seval,zD];refine eE (k6 _) ?_;simp only[↓zP,zJ,seval,zD];apply hK;clear hK K k1 k2 k4 k5 k6;simp only[↓zP,seval];refine Rx ?_;rfl
  have VF:(c != 0)=true:=Dc.2 hc;simp only[VF,sG,seval];refine bW (aRh _) ?_;simp only[↓zP,zG,seval];refine Rx ?_;rfl
 cases Xs:Px ts rs.length us.length with
 |true=>
  rw[Xs] at a7;simp only[↓zP,zJ,seval,a7];refine key _ ?_ ?_ ?_ (.inl Xs)
  · simp only[zB,seval,a3]
  · simp only[zB,seval,a4]
  simp only[zB,seval,a5]
 |false=>
  rw[Xs] at a7;simp only[↓zP,zJ,seval,a7,a3,g0,oL l6,k3,lt];generalize hb:decide ((ts.length:Int)<=64)=b at *
  cases b with
  |true=>simp only[Cc hb];refine⟨fun _=>?_,fun h=>absurd trivial h⟩;refine bW (aRh _) ?_;simp only[↓zP,zG,seval];refine Rx ?_;rfl
  |false=>
   have Nr:=Cs hb;refine⟨fun h=>absurd h Nr,fun _=>key _ ?_ ?_ ?_ (.inr (by omega))⟩
   · simp only[zB,seval,a3]
   · simp only[zB,seval,a4]
   simp only[zB,seval,a5]
end Go.Proofs.YtndkpgceodimiaaGreatDoor
