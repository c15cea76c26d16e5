/-
  Part of the proof of statement 14
-/
import Derived.Test.YtgggiembljfnhaaGreatDoorC25
import Derived.Test.YtgggiembljfnhaaGreatDoorC07
set_option linter.unusedVariables false
set_option linter.unusedSimpArgs false
set_option maxRecDepth 100000
set_option maxHeartbeats 16000000
namespace Go.Proofs.YtgggiembljfnhaaGreatDoor
open Go Go.Av
attribute [local congr] aP aJ aK aH aU aM aL aD
attribute [local irreducible] FC bM dX
theorem TL {b:List Nat} {tag least:Nat} (hb:Bytes b) (hl:b.length<2^40) (h0:0<least) (H:aA):Sound Tryz.prog gv 151 [.bH tag 1 (aO b),.int .i64 least] H (.ret (jZ b least).av) H:=by
 refine dY rf (Ae rfl) ?_ (by rfl);unfold cc;dsimp only;refine aB fun K hK=>?_;simp only[↓zP,zG,seval];apply hK;clear hK K;refine aB fun K hK=>?_;simp only[↓zP,zG,seval];refine cT (AK (b:=b) (tag:=tag) hb hl H) ?_;simp only[↓zP,zG,seval,TR.av];apply hK;clear hK K;have vS:=fun h=>tN (b:=b) h;have Nh:=fun h=>jo (b:=b) (least:=least) hl h0 h;have h00:¬((least:Int)=0):=by omega
 obtain⟨g,hg⟩:∃g,dM b=g:=⟨_,rfl⟩;rw[hg] at vS Nh;simp only[hg];refine aB fun K hK=>?_;refine aS (aB fun K2 bO=>?_);simp only[↓zP,zG,seval];apply bO;clear bO K2;have b1:(g.e != 0)=decide (g.e≠0):=by simp[bne,Iu]
 simp only[Zf,Qi,b1,wU];refine⟨fun q1=>?_,fun q1=>?_⟩
 . simp only[↓zP,zG,seval];refine Rx ?_;refine⟨?_,rfl⟩;simp only[jZ,hg];rw[if_pos q1];rfl
 simp only[↓zP,zG,seval];have aLc:=vS (by simpa using q1);have aEi:=Nh aLc.2.1;refine⟨fun q2=>?_,fun q2=>?_⟩
 . skip
   refine Rx ?_;refine⟨?_,rfl⟩;simp only[jZ,hg];rw[if_neg q1,if_pos q2];rfl
 simp only[zG,seval,bB,aEi,h00];refine⟨fun q3=>?_,fun q3=>?_⟩
 . skip
   refine Rx ?_;refine⟨?_,rfl⟩;simp only[jZ,hg];rw[if_neg q1,if_neg q2,if_pos q3];rfl
 skip
 apply hK;simp only[↓zP,zG,seval];refine Rx ?_;refine⟨?_,rfl⟩;simp only[jZ,hg];rw[if_neg q1,if_neg q2,if_neg q3];have :g.e=0:=by simpa using q1
 show _=Out.ret g.av;simp only[iW,TR.av,this]
theorem Wj (b:List Nat) (tag:Nat) (hb:Bytes b) (hl:b.length<2^36):FC Tryz.prog gv (Uw.1).ntmps (Uw.1).body (dW [.bH tag 1 (aO b),.int .i64 1,.func (.func 95) [] []]) [] ⟨0,.nil⟩
 (GX [.tmp 6,.tmp 7,.tmp 8] fun o H=>∃v,o=.ret (.eZ (v::[.int .i64 (eE b).n,.int .i64 (eE b).e]))/\jW H 1 v (bU (eE b).l)):=by
 unfold Uw;dsimp only;refine aB fun K hK=>?_;simp only[↓zP,zG,seval];apply hK;clear hK K;refine aB fun K hK=>?_;simp only[↓zP,zG,seval];have aKb:Sound Tryz.prog gv 151 [.bH tag 1 (aO b),.int .i64 1] ⟨0,.nil⟩ _ _:=TL (b:=b) (tag:=tag) (least:=1) hb (by omega) (by omega) _;refine cT (aKb) ?_;simp only[↓zP,zG,seval,TR.av];apply hK;clear hK K;have Jn:eE b=_:=rfl
 conv at Jn=>rhs;unfold eE
 have vS:=fun h=>NX (b:=b) (least:=1) h;have her:=fun h=>YC b 1 h;obtain⟨g,hg⟩:∃g,jZ b 1=g:=⟨_,rfl⟩;rw[hg] at vS her Jn;simp only[hg];refine aB fun K hK=>?_;refine aB fun K2 bO=>?_;simp only[↓zP,zG,seval];apply bO;clear bO K2;have b1:(g.e != 0)=decide (g.e≠0):=by simp[bne,Iu]
 simp only[↓zP,zG,seval,b1];refine⟨fun q1=>?_,fun q1=>?_⟩
 . refine⟨rfl,_,by simp only[mZ,EU,zB,seval];rfl,.aF,?_,?_⟩
   . rw[Jn,if_pos q1];rfl
   rw[Jn,if_pos q1];exact jW.nil _ _
 apply hK;clear hK K;have ge0:g.e=0:=by simpa using q1
 obtain⟨o1,o2,o3,o4⟩:=vS ge0;rw[if_neg q1] at Jn;obtain⟨N,hN⟩:∃N:Nat,g.v=N:=⟨g.v.toNat,by omega⟩;have hN':N<=b.length:=by rw[hN] at o4;simp at o4;omega
 rw[hN,Gu] at Jn;refine aB fun K hK=>?_;simp only[↓zP,zG,seval];apply hK;clear hK K;refine aB fun K hK=>?_;refine aB fun K2 bO=>?_;simp only[↓zP,zG,seval,hN];apply bO;clear bO K2
 refine IJ (id:=0) (cmp:=28) (ix:=27) (ln:=26) (nx:=48) (fun i f h=>f 0=.bH tag 1 (aO b)/\f 2=.func (.func 95) [] []/\∃(acc:List Int) (a:Nat),f 10=.int .i64 a/\a<=b.length/\jW h 1 (f 12) (bU acc)/\acc.length=i/\kD b N g.n=Zo acc (kD b (N -i) a))
  N (by omega) (by decide) (by simp only[zB,seval]) (by simp only[zB,seval]) ?_ ?_ ?_ ?_
 . refine⟨by simp only[zB,seval,dW,Di],by simp only[zB,seval,dW,Di,Es],[],g.n,by simp only[zB,seval],o2,by simp only[zB,seval];exact jW.nil _ _,rfl,?_⟩;rw[Gq];cases kD b N g.n<;>rfl
 . rintro i f h d v (rfl|rfl|rfl) ⟨h1,h2,acc,a,h3,h4,h5,h6,h7⟩<;>exact⟨by simpa only[zB,seval] using h1,by simpa only[zB,seval] using h2,acc,a,by simpa only[zB,seval] using h3,h4,by simpa only[zB,seval] using h5,h6,h7⟩
 . rintro i f h hi e1 e2 ⟨h1,h2,acc,a,h3,h4,h5,h6,h7⟩;refine aS (aB fun K2 bO=>?_);obtain⟨Wa,-,FX⟩:=Km tag 1 (els:=aO b) (a:=a) (by rw[bB];exact h4);rw[FG] at FX;simp only[↓zP,zG,seval,h1,h2,h3,cP,aQ,FX,Ca,false_implies];refine lF (by decide) (fs:=[]) (cs:=[]) (fid:=95) (by simp only[zB,seval]) (by simp only[Be,Ci,zB,seval,Cg,Cf]) (AK (b:=b.drop a) (tag:=Wa) (hb.drop a) (by simp;omega) h) ?_;have gok:=fun h=>tN (b:=b.drop a) h;obtain⟨M,hM⟩:∃M,N -i=M+1:=⟨N -i -1,by omega⟩;rw[hM] at h7;have ao:kD b (M+1) a=_:=rfl
   conv at ao=>rhs;unfold kD
   obtain⟨x,hx⟩:∃x,dM (b.drop a)=x:=⟨_,rfl⟩;rw[hx] at ao gok;simp only[↓zP,zG,seval,TR.av,hx];apply bO;clear bO K2;refine aB fun K2 bO=>?_;refine aB fun K3 HP=>?_;simp only[↓zP,zG,seval];apply HP;clear HP K3;have b2:(x.e != 0)=decide (x.e≠0):=(by simp[bne,Iu]);simp only[↓zP,zG,seval,b2];refine⟨fun q2=>?_,fun q2=>?_⟩
   . rw[if_pos q2] at ao;refine⟨rfl,_,by simp only[mZ,EU,zB,seval];rfl,.aF,?_,?_⟩
     . rw[Jn,h7,ao];rfl
     rw[Jn,h7,ao];exact jW.nil _ _
   rw[if_neg q2] at ao;obtain⟨g1,g2,g3,g4⟩:=gok (by simpa using q2);simp only[Cv] at g2;apply bO;clear bO K2;obtain⟨v',H',a1,a2,a3⟩:=h5.append (bytes:=8) (e:=[.int .i64 x.v]) (by rw[bQ];omega);simp only[↓zP,zG,seval,CC,bJ,a1,h3];refine⟨trivial,e1,e2,h1,h2,acc++[x.v],a+x.n,?_,by omega,?_,by simp[h6],?_⟩
   . rw[wrap_i64 (by omega) (by omega)];simp
   . rw[mW];exact a2
   rw[h7,ao,show M=N -(i+1) by omega]
   cases kD b (N -(i+1)) (a+x.n) with
   |error e=>rfl
   |ok p=>simp[Zo]
 rintro f h e2 ⟨h1,h2,acc,a,h3,h4,h5,h6,h7⟩;simp only[↓zP,seval];apply hK;clear hK K;rw[Nat.sub_self] at h7;simp only[kD,Zo,Cf] at h7;simp only[↓zP,zG,seval];refine⟨rfl,_,by simp only[mZ,EU,zB,seval];rfl,f 12,?_,?_⟩
 . rw[Jn,h7,h3];rfl
 rw[Jn,h7];exact h5
theorem my {b:List Nat} (hb:Bytes b) (hl:b.length<2^36) (H:aA):Sound Tryz.prog gv 119 [.bH 0 1 (aO b),.int .i64 1,.func (.func 95) [] []] H
 (.ret (.eZ (Nv H 1 (bU (eE b).l)::[.int .i64 (eE b).n,.int .i64 (eE b).e]))) (KX H (bU (eE b).l)):=by
 refine RQ dZ (by simp[bN,AV.free,bW]) ?_ (pM _) (bL fit qz (Ae rfl) (Wj b 0 hb hl)) H;intro x hx;simp only[Ah,Al,Bx] at hx
 rcases hx with rfl|rfl<;>exact⟨_,_,rfl⟩
theorem Qn {b:List Nat} {tag:Nat} (hb:Bytes b) (hl:b.length<2^36) (H:aA):Sound Tryz.prog gv 99 [.bH tag 1 (aO b)] H
 (.ret (.eZ (Nv H 1 (bU (eE b).l)::[.int .i64 (eE b).n,.int .i64 (eE b).e]))) (KX H (bU (eE b).l)):=by
 refine Sound.Wb (dY aIq (Ae rfl) ?_ (by rfl)) tag;unfold W99;dsimp only;refine aB fun K hK=>?_;simp only[↓zP,zG,seval];apply hK;clear hK K;simp only[↓zP,zG,seval];refine cT (my (b:=b) hb hl H) ?_;simp only[↓zP,zG,seval];refine⟨rfl,_,by simp only[mZ,EU,zB,seval];rfl,?_,rfl⟩;rfl
def lV (l:List (List Int)):List Nat:=dJ (mF l.length)++l.flatMap eG
theorem Xl (l:List (List Int)):lV l≠[]:=by unfold lV;intro h;exact lD _ (List.append_eq_nil_iff.1 h).1
theorem wX:∀{l:List (List Int)},(∀p∈l,p.length=7/\nI p)->(l.flatMap eG).length<=70*l.length
 |[],_=>by simp
 |x::l,h=>by have h1:=wX (l:=l) fun y hy=>h y (Ao _ hy);obtain⟨h2,h3⟩:=h x Aq;have h4:=jO h3;rw[Cq,Ag,Ak];omega
theorem Mh {v:AV} {l:List (List Int)} (hv:mG v 7 (dQ l)) (hr:∀p∈l,p.length=7/\nI p) (hl:l.length<2^30) (H:aA):Sound Tryz.prog gv 50 [v] H (.ret (.bH (H.next+2) 1 (aO (lV l)))) (H.alloc .tok):=by
 refine fW dZ (by simp only[bN,hv.free (dO _)];rfl) (fL (Xl _)) (bW _) (bL fit aMl (Ae rfl) ?_ (by rfl)) H;unfold W50;dsimp only;have lv:=hv.len;simp only[cD] at lv;rw[eL] at lv;have hn:=QT (mJ (n:=l.length) (by omega));refine aB fun K hK=>?_;simp only[↓zP,zG,seval];apply hK;clear hK K;refine aB fun K hK=>?_;simp only[↓zP,zG,seval,zI,lv];refine cT (hn _) ?_;simp only[↓zP,zG,seval,zI];apply hK;clear hK K;refine aB fun K hK=>?_;simp only[↓zP,zG,seval];refine wS [3] (fun i vs H'=>∃w,vs=[w]/\Own H' 1 w (aO (dJ (mF l.length)++(l.take i).flatMap eG))) 0 l.length (Cs _) (by omega) (by decide) ?_ ?_ ?_ ?_ ?_
 . simp only[zB,seval]
 . exact⟨_,by simp only[sm,zB,seval];rfl,by simp only[Ew,List.flatMap_nil,Cf];exact Own.fresh _ _ _⟩
 . rintro i f H1 h0 hi hk e1 _;have f0:f 0=v:=by rw[hk 0 rfl];rfl
   simp only[↓zP,zG,seval,e1,f0,lv];exact tB (by omega)
 . rintro i f H1 h0 hi hk e1 ⟨w,gV,ho⟩;simp only[sm,Am,Bs] at gV;have f0:f 0=.bH 0 7 (dQ l):=(hk 0 rfl).trans (hv.bH (i:=i) (by rw[eL];exact hi));have hg:=uA hi;obtain⟨h7,hx⟩:=hr _ (Ap hi);have hc:=ZP h7 hx;have EI:=jO hx;have pI:=wX (l:=l.take i) fun x hx=>hr x (Bf hx);rw[Cb] at pI;have hnl:=eI (lQ (mJ (n:=l.length) (by omega)));rw[rZ _ hi,<-Bg,cK];have qc:(iC l[i]).length=7:=by rw[tR,h7]
   generalize l[i]=x at *;refine aS ?_;simp only[↓zP,zG,seval,zI,e1,f0,gV,aQ,eL,hi,hg,oL qc];refine cT (hc _) ?_;obtain⟨w',H',ha,e2,e3⟩:=(ho.alloc .tok).append (bytes:=1) (ys:=aO (eG x)) (by simp only[bB,Ag];omega);simp only[↓zP,zG,seval,bJ,ha];exact⟨w',by simp only[seval],e2⟩
 rintro f H1 hk ⟨w,gV,ho⟩;simp only[sm,Am,Bs] at gV;rw[Bm] at ho;simp only[↓zP,seval];apply hK;clear hK K;simp only[↓zP,zG,seval,gV];refine⟨rfl,_,by simp only[↓zP,zR,seval];rfl,?_⟩;exact⟨w,rfl,ho⟩
def BF (b:Bool):Int:=if b then 1 else 0
def bS (l:List Bool):List Int:=l.map BF
theorem fN (l:List Bool):∀x∈bS l,pF x:=fun x hx=>by obtain⟨b,_,rfl⟩:=Bq.1 hx;cases b<;>exact⟨by decide,by decide⟩
theorem EV {v:AV} {l:List Bool} (hv:mG v 1 (bE l)) (hl:l.length<2^30) (H:aA):Sound Tryz.prog gv 52 [v] H (.ret (OA 1 (bU (bS l)))) H:=by
 refine fV fit dZ aMn (Ae rfl) (by simp only[bN,hv.free (pJ _)];rfl) ?_ H;unfold W52;dsimp only;have lv:=hv.len;simp only[cD] at lv;rw[qZ] at lv;refine aB fun K hK=>?_;simp only[↓zP,zG,seval];apply hK;clear hK K;refine aB fun K hK=>?_;simp only[↓zP,zG,seval];apply hK;clear hK K;refine aB fun K hK=>?_;simp only[↓zP,zG,seval];refine wS [3] (fun i vs H'=>∃w,vs=[w]/\jW H' 1 w (bU (bS (l.take i)))) 0 l.length (Cs _) (by omega) (by decide) ?_ ?_ ?_ ?_ ?_
 . simp only[zB,seval]
 . exact⟨.aF,by simp only[sm,zB,seval],.nil _ _⟩
 . rintro i f H1 h0 hi hk e1 _;have f0:f 0=v:=by rw[hk 0 rfl];rfl
   simp only[↓zP,zG,seval,e1,f0,lv];exact tB (by omega)
 . rintro i f H1 h0 hi hk e1 ⟨w,gV,ho⟩;simp only[sm,Am,Bs] at gV;have f0:f 0=.bH 0 1 (bE l):=(hk 0 rfl).trans (hv.bH (i:=i) (by rw[qZ];exact hi));have hg:=TU hi;have zS:bS (l.take (i+1))=bS (l.take i)++[BF l[i]]:=by unfold bS;rw[Bv,Ac hi,Dx];rfl
   have hln:(bS (l.take i)).length<=i:=(by simp[bS];omega);rw[zS,mW];generalize l[i]=b at *;obtain⟨w',H',ha,e2,e3⟩:=ho.append (bytes:=8) (e:=[.int .i64 (BF b)]) (by rw[bQ];omega);refine aS ?_;cases b
   . rw[show BF false=0 from rfl] at ha;simp only[↓zP,zG,seval,zI,e1,f0,gV,aQ,qZ,hi,hg,show ∀(h:aA) (x:AV),bJ h 1 (.bH 1 1 [[x]])=some [[x]] from fun _ _=>rfl,ha];exact⟨w',by simp only[seval],e2⟩
   rw[show BF true=1 from rfl] at ha;simp only[↓zP,zG,seval,zI,e1,f0,gV,aQ,qZ,hi,hg,show ∀(h:aA) (x:AV),bJ h 1 (.bH 1 1 [[x]])=some [[x]] from fun _ _=>rfl,ha];exact⟨w',by simp only[seval],e2⟩
 rintro f H1 hk ⟨w,gV,ho⟩;simp only[sm,Am,Bs] at gV;rw[Bm] at ho;simp only[↓zP,seval];apply hK;clear hK K;simp only[↓zP,zG,seval,gV];refine⟨rfl,_,by simp only[↓zP,zR,seval];rfl,?_⟩;exact⟨w,0,rfl,fun nw=>ho.shut (jQ (BU _)) nw⟩
def UE (l:List Int):AV:=if l=[] then .bH 1 1 [] else .bH 0 1 (bU l)
theorem uG:∀{l:List (List Int)},(∀w∈l,w.length=3)->l.flatten.length=3*l.length
 |[],_=>rfl
 |x::l,h=>by have h1:=uG (l:=l) fun y hy=>h y (Ao _ hy);have h2:=h x Aq;rw[Bo,Ag,Ak];omega
theorem Qa {v:AV} {l:List (List Int)} (hv:mG v 3 (dQ l)) (h3:∀w∈l,w.length=3) (hl:l.length<2^30) (H:aA):Sound Tryz.prog gv 53 [.aF,v] H (.ret (UE l.flatten)) H:=by
 refine fV fit dZ aMo (Ae rfl) (by simp only[bN,AV.free,hv.free (dO _)];rfl) ?_ H;unfold W53;dsimp only;have lv:=hv.len;simp only[cD] at lv;rw[eL] at lv;refine aB fun K hK=>?_;simp only[↓zP,zG,seval];apply hK;clear hK K;have hap:∀H:aA,cV H 1 8 false (.bH 1 1 []) []=some (.bH 1 1 [],H):=fun _=>rfl;refine aB fun K hK=>?_;simp only[↓zP,zG,seval,zI,bJ,hap];apply hK;clear hK K;refine aB fun K hK=>?_;simp only[↓zP,zG,seval];refine wS [5] (fun i vs H'=>∃w,vs=[w]/\(((l.take i).flatten=[]/\w=.bH 1 1 [])\/((l.take i).flatten≠[]/\Own H' 1 w (bU (l.take i).flatten)))) 0 l.length (Cs _) (by omega) (by decide) ?_ ?_ ?_ ?_ ?_
 . simp only[zB,seval]
 . exact⟨.bH 1 1 [],by simp only[sm,zB,seval],.inl ⟨rfl,rfl⟩⟩
 . rintro i f H1 h0 hi hk e1 _;have f1:f 1=v:=by rw[hk 1 rfl];rfl
   simp only[↓zP,zG,seval,e1,f1,lv];exact tB (by omega)
 . rintro i f H1 h0 hi hk e1 ⟨w,gV,ho⟩;simp only[sm,Am,Bs] at gV;have f1:f 1=.bH 0 3 (dQ l):=(hk 1 rfl).trans (hv.bH (i:=i) (by rw[eL];exact hi));have hg:=uA hi;have qp:=h3 _ (Ap hi);have pI:=uG (l:=l.take i) fun x hx=>h3 x (Bf hx);rw[Cb] at pI;have zS:(l.take (i+1)).flatten=(l.take i).flatten++l[i]:=by rw[Bv,Ac hi,Dw];simp
   rw[zS];generalize l[i]=x at *;generalize (l.take i).flatten=o at *
   have FX:∀H:aA,kC H 3 1 (.pl (iC x)) none none none=some (.bH 1 1 (bU x)):=fun H=>by
    match x,qp with
    |[a,b,c],_=>rfl
   have cF:o++x≠[]:=fun e=>by rw[(List.append_eq_nil_iff.1 e).2] at qp;cases qp
   have EI:(bU x).length=3:=by rw[bQ,qp]
   have xU:∃w' H2,cV H1 1 8 false w (bU x)=some (w',H2)/\Own H2 1 w' (bU (o++x)):=by
    rcases ho with ⟨h,rfl⟩|⟨_,ho⟩
    . refine⟨.bH (H1.next+2) 1 (bU x),H1.alloc .tok,?_,by rw[h];exact Own.fresh _ _ _⟩;unfold cV;rw[if_neg (by intro e;rw[List.isEmpty_iff] at e;rw[e] at EI;cases EI)];simp only[Ar,Cc,EI];rw[if_pos ⟨trivial,by decide⟩];rfl
    obtain⟨w',H2,ha,e2,_⟩:=ho.append (bytes:=8) (ys:=bU x) (by rw[EI,bQ];omega);exact⟨w',H2,ha,by rw[mW];exact e2⟩
   obtain⟨w',H2,ha,e2⟩:=xU;refine aS ?_;simp only[↓zP,zG,seval,zI,e1,f1,gV,aQ,eL,hi,hg,cP,FX,bJ,ha];exact⟨w',by simp only[seval],.inr ⟨cF,e2⟩⟩
 rintro f H1 hk ⟨w,gV,ho⟩;simp only[sm,Am,Bs] at gV;rw[Bm] at ho;simp only[↓zP,seval];apply hK;clear hK K;simp only[↓zP,zG,seval,gV];refine⟨rfl,_,by simp only[↓zP,zR,seval];rfl,?_⟩;refine⟨w,0,rfl,fun nw=>?_⟩;unfold UE
 rcases ho with ⟨h,rfl⟩|⟨h,ho⟩
 . rw[if_pos h];rfl
 rw[if_neg h];have cF:bU l.flatten≠[]:=fun e=>h (List.map_eq_nil_iff.1 e);refine Has.shut (.inr ho) cF (fun e=>?_) (jQ (BU _)) nw
 rcases ho with ⟨h1,h2⟩|⟨k,h1,_⟩
 . exact cF h2
 rw[h1] at e;cases e
theorem ER {l:List Bool} (hl:l.length<2^30) (H:aA):Sound Tryz.prog gv 51 [OA 1 (bU (bS l))] H (.ret (.bH (H.next+2) 1 (aO (bC (bS l))))) (H.alloc .tok):=
 Ss (sW _ _) (fN l) (by simp[bS];omega) H
theorem QU {l:List (List Int)} (h3:∀w∈l,w.length=3/\nI w) (hl:l.length<2^30) (H:aA):Sound Tryz.prog gv 51 [UE l.flatten] H (.ret (.bH (H.next+2) 1 (aO (bC l.flatten)))) (H.alloc .tok):=by
 have fw:∀x∈l.flatten,pF x:=fun x hx=>by obtain⟨w,hw,hx⟩:=Fg.1 hx;exact(h3 w hw).2 x hx
 have hf:=uG fun w hw=>(h3 w hw).1;unfold UE;split
 . rename_i h;rw[h];exact(Ss (v:=.bH 0 1 []) (l:=[]) (.inr rfl) (fun x hx=>by cases hx) (by decide) H).Wb 1
 exact Ss (.inr rfl) fw (by omega) H
def qM (s:Sc):List Nat:=bC (bS s.st)++lV s.ps++bC s.vs.flatten++bC s.ws.flatten++bC (bS s.ta)++bC (bS s.ac)
theorem dG {l:List Int} (h:∀x∈l,pF x) (hl:l.length<2^33):(bC l).length<=10+10*l.length:=by have h1:=qE h;have h2:=eI (lQ (mJ (n:=l.length) (by omega)));unfold bC;rw[Ag];omega
theorem rW {l:List (List Int)} (h:∀p∈l,p.length=7/\nI p) (hl:l.length<2^30):(lV l).length<=10+70*l.length:=by have h1:=wX h;have h2:=eI (lQ (mJ (n:=l.length) (by omega)));unfold lV;rw[Ag];omega
theorem HL {s:Sc} (hs:s.OK) (H:aA):Sound Tryz.prog gv 20 [.agg s.cs] H (.ret (.bH (H.next+2) 1 (aO (qM s)))) (H.alloc .tok):=by
 refine fW dZ (by simp only[bN,AV.free,Sc.free hs];rfl) (fL (by unfold qM;simp[tI])) (bW _) (bL fit aLv (Ae rfl) ?_ (by rfl)) H;unfold W20;dsimp only;have c1:=EV hs.st hs.bH;have c2:=ER hs.bH;have c3:=Mh hs.ps hs.p7 hs.tc;have c4:=Qa hs.vs (fun w hw=>(hs.v3 w hw).1) hs.lvs;have c5:=QU hs.v3 hs.lvs;have c6:=Qa hs.ws (fun w hw=>(hs.w3 w hw).1) hs.lws;have c7:=QU hs.w3 hs.lws;have c8:=EV hs.ta hs.lta;have c9:=ER hs.lta;have c10:=EV hs.ac hs.lac;have c11:=ER hs.lac;have e1:(bC (bS s.st)).length<=10+10*2^30:=by have :=dG (fN s.st) (by have :=hs.bH;simp[bS];omega);have :=hs.bH;simp[bS] at *;omega
 have e2:(lV s.ps).length<=10+70*2^30:=by have :=rW hs.p7 hs.tc;have :=hs.tc;omega
 have e3:(bC s.vs.flatten).length<=10+30*2^30:=by
  have hf:=uG fun w hw=>(hs.v3 w hw).1
  have :=dG (l:=s.vs.flatten) (fun x hx=>by
   obtain⟨w,hw,hx⟩:=Fg.1 hx
   exact(hs.v3 w hw).2 x hx) (by have :=hs.lvs;omega)
  have :=hs.lvs;omega
 have e4:(bC s.ws.flatten).length<=10+30*2^30:=by
  have hf:=uG fun w hw=>(hs.w3 w hw).1
  have :=dG (l:=s.ws.flatten) (fun x hx=>by
   obtain⟨w,hw,hx⟩:=Fg.1 hx
   exact(hs.w3 w hw).2 x hx) (by have :=hs.lws;omega)
  have :=hs.lws;omega
 have e5:(bC (bS s.ta)).length<=10+10*2^30:=by have :=dG (fN s.ta) (by have :=hs.lta;simp[bS];omega);have :=hs.lta;simp[bS] at *;omega
 have e6:(bC (bS s.ac)).length<=10+10*2^30:=by have :=dG (fN s.ac) (by have :=hs.lac;simp[bS];omega);have :=hs.lac;simp[bS] at *;omega
 have hE:qM s=bC (bS s.st)++lV s.ps++bC s.vs.flatten++bC s.ws.flatten++bC (bS s.ta)++bC (bS s.ac):=rfl;generalize bC (bS s.st)=a1 at *;generalize lV s.ps=a2 at *;generalize bC s.vs.flatten=a3 at *;generalize bC s.ws.flatten=a4 at *;generalize bC (bS s.ta)=a5 at *;generalize bC (bS s.ac)=a6 at *;refine aB fun K hK=>?_;simp only[↓zP,zG,seval,zI,Sc.cs];apply hK;clear hK K;generalize hX:(aA.mk 0 .nil).alloc _=HA;have g0:HA.get 0=some (.cells [s.sv,s.pv,s.vv,s.wv,s.tv,s.av] false):=by subst hX;simp only[zI,seval]
 have gn:0<HA.next:=by subst hX;simp only[zI,seval]
 clear hX;refine eS fun f pH=>?_;have f1:f 1=.ref 0 0:=by subst pH;simp only[zB,seval]
 clear pH;refine aB fun K hK=>?_;refine bK (by decide) ?_;simp only[↓zP,zG,seval,zD,reduceCtorEq,zI,f1,g0];refine rM (c1 _) ?_;have cF:¬(0=HA.next):=by omega
 simp only[seval];apply cL (hS:=c2 _)
 . decide
 . simp only[sm,zB,seval]
 . simp only[aA.aR];omega
 . intro x hx _;simp only[Ah,Al,Bx] at hx;subst hx;rw[aA.aG,if_neg cF]
 simp only[↓zP,zG,seval,zD,reduceCtorEq,zI,f1,g0,cF];apply cL (hS:=c3 _)
 . decide
 . simp only[sm,zB,seval]
 . simp only[aA.aR];omega
 . intro x hx _;simp only[Ah,Al,Bx] at hx
   rcases hx with rfl|rfl<;>(refine Eq.symm ?_;rw[aA.aG,if_neg (by simp only[aA.aR];omega)])
 have o1:Own ((HA.alloc .tok).alloc .tok) 1 (.bH (HA.next+2) 1 (aO a1)) (aO a1):=(Own.fresh HA 1 _).alloc .tok;have gA:((HA.alloc .tok).alloc .tok).get 0=some (.cells [s.sv,s.pv,s.vv,s.wv,s.tv,s.av] false):=by rw[aA.aG,if_neg (by simp only[aA.aR];omega),aA.aG,if_neg cF];exact g0
 have gB:0<((HA.alloc .tok).alloc .tok).next:=by simp only[aA.aR];omega
 obtain⟨w1,H1,ha1,o2,gr⟩:=o1.append (bytes:=1) (ys:=aO a2) (by simp only[bB];omega);have m0:=gr.cells o1 gB gA;have mn:=Aw gB gr.next;rw[<-cK] at o2;simp only[↓zP,zG,seval,zD,reduceCtorEq,zI,bJ,ha1];refine⟨gr.next,?_⟩;apply hK;clear hK K o1 gA gB gr ha1 cF g0 gn
 have xU:∀{H:aA} {w:AV} {pre b:List Nat},0<H.next->H.get 0=some (.cells [s.sv,s.pv,s.vv,s.wv,s.tv,s.av] false)->Own H 1 w (aO pre)->pre.length+b.length<=2^40->
  ∃w' H',cV (H.alloc .tok) 1 1 false w (aO b)=some (w',H')/\Own H' 1 w' (aO (pre++b))/\0<H'.next/\H'.get 0=some (.cells [s.sv,s.pv,s.vv,s.wv,s.tv,s.av] false):=by
  intro H w pre b hn hg ho hl;have hg2:(H.alloc .tok).get 0=some (.cells [s.sv,s.pv,s.vv,s.wv,s.tv,s.av] false):=by rw[aA.aG,if_neg (by omega)];exact hg
  have SE:0<(H.alloc .tok).next:=by simp only[aA.aR];omega
  obtain⟨w',H',ha,o,gr⟩:=(ho.alloc .tok).append (bytes:=1) (ys:=aO b) (by simp only[bB];omega);exact⟨w',H',ha,by rw[cK];exact o,Aw SE gr.next,gr.cells (ho.alloc .tok) SE hg2⟩
 have l12:(a1++a2).length<=20+80*2^30:=by rw[Ag];omega
 generalize a1++a2=p1 at *;obtain⟨w2,H2,ha2,o3,n2,m2⟩:=xU (b:=a3) mn m0 o2 (by omega);refine aB fun K hK=>?_;simp only[↓zP,zG,seval,zI,f1,m0];refine cT (c4 _) ?_;refine cT (c5 _) ?_;simp only[↓zP,zG,seval,bJ,ha2];apply hK;clear hK K;have l2:(p1++a3).length<=30+110*2^30:=by rw[Ag];omega
 generalize p1++a3=p2 at *;obtain⟨w3,H3,ha3,o4,n3,m3⟩:=xU (b:=a4) n2 m2 o3 (by omega);refine aB fun K hK=>?_;simp only[↓zP,zG,seval,zI,f1,m2];refine cT (c6 _) ?_;refine cT (c7 _) ?_;simp only[↓zP,zG,seval,bJ,ha3];apply hK;clear hK K;have l3:(p2++a4).length<=40+140*2^30:=by rw[Ag];omega
 generalize p2++a4=p3 at *;obtain⟨w4,H4,ha4,o5,n4,m4⟩:=xU (b:=a5) n3 m3 o4 (by omega);refine aB fun K hK=>?_;simp only[↓zP,zG,seval,zI,f1,m3];refine cT (c8 _) ?_;refine cT (c9 _) ?_;simp only[↓zP,zG,seval,bJ,ha4];apply hK;clear hK K;have l4:(p3++a5).length<=50+170*2^30:=by rw[Ag];omega
 generalize p3++a5=p4 at *;obtain⟨w5,H5,ha5,o6,n5,m5⟩:=xU (b:=a6) n4 m4 o5 (by omega);simp only[↓zP,zG,seval,zI,f1,m4];refine cT (c10 _) ?_;refine cT (c11 _) ?_;simp only[↓zP,zG,seval,bJ,ha5];refine Rx ?_;exact⟨w5,rfl,by rw[hE];exact o6⟩
def oH (l:List Nat):List UInt8:=l.map fun n=>UInt8.ofNat n
theorem Ln:∀l:List Nat,bytesOf (aO l)=some (oH l)
 |[]=>rfl
 |n::l=>by have h:=Ln l;simp only[aO,oH,Be,bytesOf] at h ⊢;rw[h];rfl
theorem Qb {a b:Nat} {l m:List Nat} (H:aA):Sound Tryz.prog gv 18 [.bH a 1 (aO l),.bH b 1 (aO m)] H (.ret (.bool (oH l==oH m))) H:=by refine dY aLt (Ae rfl) ?_ (by rfl);unfold W18;dsimp only;simp only[↓zP,zG,seval,zI,bJ,Ln,show ∀x y:List UInt8,di .eql x y=some (.bool (x==y)) from fun _ _=>rfl];refine Rx ?_;exact⟨rfl,rfl⟩
theorem ZR {s t:Sc} (hs:s.OK) (ht:t.OK) (H:aA):Sound Tryz.prog gv 10 [.agg s.cs,.agg t.cs] H (.ret (.bool (oH (qM s)==oH (qM t)))) H:=by
 refine So aLp (by simp only[bN,AV.free,Sc.free hs,Sc.free ht];rfl) ?_ H;unfold W10;dsimp only;have h1:=HL hs;have h2:=HL ht;have l1:s.cs.length=6:=rfl;have l2:t.cs.length=6:=rfl;refine aB fun K hK=>?_;simp only[↓zP,zG,seval,zI];apply hK;clear hK K;generalize hX:((aA.mk 0 .nil).alloc _).alloc _=HA;have g0:HA.get 0=some (.cells s.cs false):=by subst hX;simp only[zI,seval]
 have g1:HA.get 1=some (.cells t.cs false):=by subst hX;simp only[zI,seval]
 have gn:1<HA.next:=by subst hX;simp only[zI,seval]
 clear hX;have aKy:¬(0=HA.next):=by omega
 have aKz:¬(1=HA.next):=by omega
 refine eS fun f pH=>?_;have f2:f 2=.ref 0 0:=by subst pH;simp only[zB,seval]
 have f3:f 3=.ref 1 0:=by subst pH;simp only[zB,seval]
 clear pH;refine aB fun K hK=>?_;refine bK (by decide) ?_;simp only[↓zP,zG,seval,zD,reduceCtorEq,zI,f2,g0,oL l1];apply cL (hS:=h1 _)
 . decide
 . simp only[sm,zB,seval]
 . simp only[aA.aR];omega
 . intro x hx _;simp only[Ah,Al,Bx] at hx;subst hx;rw[aA.aG,if_neg aKy]
 simp only[↓zP,zG,seval,zD,zI,f3,g1,oL l2,aKz];apply cL (hS:=h2 _)
 . decide
 . simp only[sm,zB,seval]
 . simp only[aA.aR];omega
 . intro x hx _;simp only[Ah,Al,Bx] at hx
   rcases hx with rfl|rfl<;>(refine Eq.symm ?_;rw[aA.aG,if_neg (by simp only[aA.aR];omega)])
 refine rM (Qb (a:=HA.next+2) (b:=(HA.alloc dU.tok).next+2) (l:=qM s) (m:=qM t) _) ?_;simp only[↓zP,zG,seval,zD,reduceCtorEq,zI];apply hK;clear hK K;simp only[↓zP,seval];refine Rx ?_;rfl
def W88:CW Tryz.f88:=⟨_,cX⟩
theorem aIo:Fi 88 W88:=cN Tryz.func88 W88
def W8:CW Tryz.f8:=⟨_,cX⟩
theorem is8:Fi 8 W8:=cN Tryz.func8 W8
def W16:CW Tryz.f16:=⟨_,cX⟩
theorem aFm:Fi 16 W16:=cN Tryz.func16 W16
def W33:CW Tryz.f33:=⟨_,xV⟩
theorem aMe:Fi 33 W33:=cN Tryz.func33 W33
def W34:CW Tryz.f34:=⟨_,cX⟩
theorem aMf:Fi 34 W34:=cN Tryz.func34 W34
def W75:CW Tryz.f75:=⟨_,xV⟩
theorem aNh:Fi 75 W75:=cN Tryz.func75 W75
def W77:CW Tryz.f77:=⟨_,xV⟩
theorem aNj:Fi 77 W77:=cN Tryz.func77 W77
def W79:CW Tryz.f79:=⟨_,xV⟩
theorem aNk:Fi 79 W79:=cN Tryz.func79 W79
def W76:CW Tryz.f76:=⟨_,cX⟩
theorem aNi:Fi 76 W76:=cN Tryz.func76 W76
theorem aJc (m:Nat):IntKind.u8.wrap ↑(BitVec.ofInt IntKind.u8.bits (IntKind.u8.wrap ↑m)|||BitVec.ofInt IntKind.u8.bits 128).toNat=((m%128+128:Nat):Int):=by
 have h:∀k:Fin 256,IntKind.u8.wrap ↑(BitVec.ofInt 8 ((k:Nat):Int)|||BitVec.ofInt 8 128).toNat=(((k:Nat)%128+128:Nat):Int):=by decide+kernel
 have hm:IntKind.u8.wrap ↑m=((m%256:Nat):Int):=by simp only[IntKind.wrap,IntKind.bits,IntKind.signed];simp
 rw[hm];have :=h ⟨m%256,Dp _ (by omega)⟩;simp only at this;show IntKind.u8.wrap ↑(BitVec.ofInt 8 _|||BitVec.ofInt 8 128).toNat=_;rw[this];congr 2;omega
theorem aOb (m:Nat):(m:Int).fdiv (2^min 7 IntKind.u64.bits)=((m / 128:Nat):Int):=by
 have h:(2:Int)^min 7 IntKind.u64.bits=128:=by decide
 rw[h,Du _ (by omega)];omega
theorem pW (x:Int):IntKind.u64.wrap x=x%2^64:=by simp[IntKind.wrap,IntKind.bits,IntKind.signed]
theorem aCs {n:Int} (h0: -2^63<=n) (h1:n<2^63):IntKind.u64.wrap
         ↑(BitVec.ofInt IntKind.u64.bits (IntKind.u64.wrap (IntKind.u64.wrap n*2^min 1 IntKind.u64.bits))^^^
            BitVec.ofInt IntKind.u64.bits (IntKind.u64.wrap (n.fdiv (2^min 63 IntKind.i64.bits)))).toNat=(mF n:Int):=by
 have e1:(2:Int)^min 1 IntKind.u64.bits=2:=by decide
 have e2:(2:Int)^min 63 IntKind.i64.bits=2^63:=by decide
 rw[e1,e2,Du _ (by decide)];have hk:(IntKind.u64.bits:Nat)=64:=rfl;by_cases hn:0<=n
 . have a1:n / 2^63=0:=Int.ediv_eq_zero_of_lt hn h1
   have a2:IntKind.u64.wrap (IntKind.u64.wrap n*2)=2*n:=by rw[pW,pW];omega
   rw[a1,a2];have a3:BitVec.ofInt 64 (IntKind.u64.wrap 0)=0#64:=(by decide+kernel);show IntKind.u64.wrap ((BitVec.ofInt 64 (2*n)^^^BitVec.ofInt 64 (IntKind.u64.wrap 0)).toNat:Int)=_;rw[a3,pW];show((BitVec.ofInt 64 (2*n)^^^0#64).toNat:Int)%2^64=_;rw[BitVec.xor_zero,BitVec.toNat_ofInt];unfold mF;rw[if_pos hn];omega
 have a1:n / 2^63= -1:=by omega
 have a2:IntKind.u64.wrap (IntKind.u64.wrap n*2)=2*n+2^64:=by rw[pW,pW];omega
 rw[a1,a2];have a3:BitVec.ofInt 64 (IntKind.u64.wrap (-1))=BitVec.allOnes 64:=by decide+kernel
 show IntKind.u64.wrap ((BitVec.ofInt 64 (2*n+2^64)^^^BitVec.ofInt 64 (IntKind.u64.wrap (-1))).toNat:Int)=_;rw[a3,pW];show((BitVec.ofInt 64 (2*n+2^64)^^^BitVec.allOnes 64).toNat:Int)%2^64=_;rw[BitVec.xor_allOnes,BitVec.toNat_not,BitVec.toNat_ofInt];unfold mF;rw[if_neg hn];omega
theorem Zv {n:Int} (hn:pF n) (H:aA):Sound Tryz.prog gv 88 [.int .i64 n] H (.ret (.bH (H.next+2) 1 (aO (dJ (mF n))))) (H.alloc .tok):=by
 have hz:=lQ hn;have LX:=hn;unfold pF at LX;refine fW dZ rfl (fL (lD _)) (bW _) (bL fit aIo (Ae rfl) ?_ (by rfl)) H;unfold W88;dsimp only;have hze:=aCs (n:=n) (by omega) (by omega);refine aB fun K hK=>?_;simp only[↓zP,zG,seval];apply hK;clear hK K;refine aB fun K hK=>?_;simp only[↓zP,zG,seval,zI,jX,nG];rw[hze];apply hK;clear hK K;refine eS fun f pH=>?_;have f3:f 3=.int .u64 (mF n):=by subst pH;simp only[zB,seval]
 clear pH;refine aB fun K hK=>?_;simp only[↓zP,zG,seval];apply hK;clear hK K;refine aB fun K hK=>?_;refine aS (jI [3,4] (fun m vs H=>∃(v:AV) (pre:List Nat),vs=[.int .u64 m,v]/\m<2^64/\Own H 1 v (aO pre)/\pre++dJ m=dJ (mF n)) (mF n) (by rfl) ?_ ?_)
 . exact⟨.aF,[],by simp only[sm,zB,seval,f3],hz,.nil _ _,by simp⟩
 rintro m f4 H1 hk ⟨v,pre,gV,eW,Nf,SF⟩;simp only[sm,Am,Bs] at gV;obtain⟨v3,v4⟩:=gV;have Jp:=eI hz;rw[<-SF,Ag] at Jp;have os:∀(h:aA) (x:AV),bJ h 1 (.bH 1 1 [[x]])=some [[x]]:=fun _ _=>rfl;by_cases xB:m>127
 . have d1:=Bk (show(m:Int)>127 by omega);have AM:dJ m=(m%128+128)::dJ (m / 128):=by rw[dJ,if_neg (by omega)]
   obtain⟨v',H',ha,e2,e3⟩:=Nf.append (bytes:=1) (ys:=aO [m%128+128]) (by rw[AM] at Jp;simp only[bB,Ak,Ar] at Jp ⊢;omega);simp only[aO,Be,Ci] at ha;have Pg:=aJc m;have hsh:=aOb m;have hwr:IntKind.u64.wrap ((m / 128:Nat):Int)=((m / 128:Nat):Int):=wrap_u64 (by omega) (by omega);refine aB fun K2 bO=>?_;simp only[↓zP,zG,seval,v3,d1];apply bO;clear bO K2;refine aB fun K2 bO=>?_;refine aS ?_;simp only[↓zP,zG,seval,zI,v3,v4,jX,nG,os,Pg,ha];apply bO;clear bO K2;simp only[↓zP,zG,seval,zI,v3,jX,hsh];exact⟨m / 128,by omega,v',pre++[m%128+128],by simp only[seval],by omega,by rw[cK];exact e2,by rw[<-SF,AM];simp⟩
 have d1:=As (show ¬(m:Int)>127 by omega);have hle:m<=127:=by omega
 have AM:dJ m=[m]:=by rw[dJ,if_pos hle]
 obtain⟨v',H',ha,e2,e3⟩:=Nf.append (bytes:=1) (ys:=aO [m]) (by rw[AM] at Jp;simp only[bB,Ak,Ar] at Jp ⊢;omega);simp only[aO,Be,Ci] at ha;simp only[↓zP,zG,seval,v3,d1];apply hK;clear hK K;simp only[↓zP,zG,seval,zI,v3,v4,lo7 hle,os,aO,ha];refine Rx ?_;refine⟨v',rfl,?_⟩;rw[<-SF,AM];show Own H' 1 v' (aO (pre++[m]));rw[cK];exact e2
def W44:CW Tryz.f44:=⟨_,cX⟩
theorem aIi:Fi 44 W44:=cN Tryz.func44 W44
def W45:CW Tryz.f45:=⟨_,cX⟩
theorem aIj:Fi 45 W45:=cN Tryz.func45 W45
def yg:CW Tryz.f235:=⟨_,cX⟩
theorem aHf:Fi 235 yg:=cN Tryz.func235 yg
def yl:CW Tryz.f250:=⟨_,xV⟩
theorem aHk:Fi 250 yl:=cN Tryz.func250 yl
def yj:CW Tryz.f238:=⟨_,cX⟩
theorem aHi:Fi 238 yj:=cN Tryz.func238 yj
def vo:CW Tryz.f139:=⟨_,xV⟩
theorem aFg:Fi 139 vo:=cN Tryz.func139 vo
def xa:CW Tryz.f187:=⟨_,xV⟩
theorem aGc:Fi 187 xa:=cN Tryz.func187 xa
def wz:CW Tryz.f186:=⟨_,cX⟩
theorem aGb:Fi 186 wz:=cN Tryz.func186 wz
theorem _root_.Go.Av.Own.one {H:aA} {sz:Nat} {v:AV} {els:List (List AV)} (h:Own H sz v els):v.cells=[v]/\v.oK=false:=by rcases h with ⟨rfl,_⟩|⟨k,rfl,_⟩<;>exact⟨rfl,rfl⟩
def NI (H:aA) (p:Nat) (l:List Nat):Prop:=∃v,H.get p=some (.cells [v] false)/\p<H.next/\Own H 1 v (aO l)
structure rR (H H':aA) (p:Nat):Prop where
 next:H.next<=H'.next
 CL:∀j cs o,j<H.next->j≠p->H.get j=some (.cells cs o)->H'.get j=some (.cells cs o)
theorem rR.refl (H:aA) (p:Nat):rR H H p:=⟨Ai _,fun _ _ _ _ _ h=>h⟩
theorem rR.trans {H H1 H2:aA} {p:Nat} (h:rR H H1 p) (g:rR H1 H2 p):rR H H2 p:=⟨By h.next g.next,fun j cs o h1 h2 h3=>g.CL j cs o (Aw h1 h.next) h2 (h.CL j cs o h1 h2 h3)⟩
def RdI (H:aA) (p:Nat) (v:AV) (l:List Int):Prop:=(v=.aF/\l=[])\/(∃tag,v=.bH tag 1 (bU l))\/∃id off cap cs o,v=.sl id 1 off l.length cap/\id≠p/\id<H.next/\H.get id=some (.cells cs o)/\∀i (h:i<l.length),off+i+1<=cs.length/\cs.getD (off+i) aC=.int .i64 l[i]
theorem RdI.len {H:aA} {p:Nat} {v:AV} {l:List Int} (h:RdI H p v l) (H':aA):cD (fun _=>v) H' (.GU (.tmp 0))=some (.int .i64 l.length,H'):=by
 rcases h with ⟨rfl,rfl⟩|⟨tag,rfl⟩|⟨id,off,cap,cs,o,rfl,_⟩
 . rfl
 . simp only[cD,bQ]
 rfl
theorem DV {l:List Int} {i:Nat} (hi:i<l.length):eG (l.take (i+1))=eG (l.take i)++dJ (mF l[i]):=rZ (fun x=>dJ (mF x)) hi
theorem IE {H:aA} {p:Nat} {v:AV} {l:List Int} {pre:List Nat} (hw:NI H p pre) (hv:RdI H p v l) (hl:∀x∈l,pF x) (hn:l.length<2^30) (hp:pre.length<2^38):
 ∃H',Sound Tryz.prog gv 44 [.ref p 0,v] H (.ret (iW [])) H'/\NI H' p (pre++eG l)/\rR H H' p:=by
 obtain⟨_,H',⟨rfl,hq⟩,hS⟩:=bL (R:=fun o H'=>o=.ret (iW [])/\NI H' p (pre++eG l)/\rR H H' p) fit aIi (args:=[.ref p 0,v]) (H:=H) (Ae rfl) (by
  unfold W44;dsimp only;have lv:=hv.len;simp only[cD] at lv;refine aB fun K hK=>?_;simp only[↓zP,zG,seval,zI,lv];apply hK;clear hK K;refine bV [] (fun i vs H'=>NI H' p (pre++eG (l.take i))/\rR H H' p) l.length (by omega) (by decide) ?_ ?_ ?_ ?_ ?_
  . simp only[zB,seval]
  . simp only[zB,seval]
  . exact⟨by simpa [eG] using hw,rR.refl _ _⟩
  . rintro i f4 H1 hi hk x1 ⟨⟨w,hg,BS,ho⟩,xU⟩;have u0:f4 0=.ref p 0:=by rw[hk 0 rfl];rfl
    have u6:f4 6=v:=hk 6 rfl;have hx:=hl _ (Ap hi);rw[DV hi,<-Bg];have hlen:=jO (l:=l.take i) fun x hx=>hl x (Bf hx);rw[Cb] at hlen;have h10:=eI (lQ hx);generalize hxi:l[i]=x at *;refine aS ?_;refine aB fun K2 bO=>?_
    have key:∀f:cQ,f 0=.ref p 0->f 5=.int .i64 x->K2 f [] H1:=by
     intro f f0 f5;apply bO;clear bO K2;refine bK (by decide) ?_;have hgA:(H1.alloc .tok).get p=some (.cells [w] false):=(by rw[aA.aG,if_neg (by omega)];exact hg);obtain⟨w',H4,ha,e2,e3⟩:=(ho.alloc .tok).append (bytes:=1) (ys:=aO (dJ (mF x))) (by simp only[bB,Ag];omega);have z7:=e3.cells (ho.alloc .tok) (by simp only[aA.aR];omega) hgA;obtain⟨o1,o2⟩:=e2.one;simp only[↓zP,zG,seval,zD,reduceCtorEq,zI,f0,f5,hg];refine cL (hS:=Zv hx H1) (by decide) (by simp only[sm,zB,seval]) (by simp only[aA.aR];omega) ?_ ?_
     . intro y hy _;simp only[Ah,Al,Bx] at hy;subst hy;exact hg.trans hgA.symm
     simp only[↓zP,zG,seval,zD,reduceCtorEq,zI,bJ,ha,z7,o1,o2];refine⟨e3.next,⟨w',BL _ _ _,?_,?_⟩,xU.trans ⟨?_,fun j cs o h1 h2 h3=>?_⟩⟩
     . have :=e3.next;simp only[aA.aR,aA.bD] at this ⊢;omega
     . have :=e2.set p (.cells [w'] false) (e2.Sa z7);rw[<-cK,Bg] at this;rw[Bg];exact this
     . have :=e3.next;simp only[aA.aR,aA.bD] at this ⊢;omega
     rw[aA.aI,if_neg h2];exact e3.cells (ho.alloc .tok) (by simp only[aA.aR];omega) (by rw[aA.aG,if_neg (by omega)];exact h3)
    clear bO
    rcases hv with ⟨_,rfl⟩|⟨tag,rfl⟩|⟨id,off,cap,cs,o,rfl,hip,YM,hgc,FW⟩
    . exact absurd hi (Bh _)
    . have YM:=bQ l;have xB:(bU l).getD i []=[.int .i64 x]:=(by rw[<-hxi];simp[bU,hi]);simp only[↓zP,zG,seval,zI,x1,u6,aQ,YM,hi,xB];exact key _ (by simp only[zB,seval];exact u0) (by simp only[zB,seval])
    obtain⟨c1,c2⟩:=FW i hi;rw[hxi] at c2;have hg2:=xU.CL id cs o YM hip hgc;simp only[↓zP,zG,seval,zI,x1,u6,aQ,hi,hg2,c1,c2];exact key _ (by simp only[zB,seval];exact u0) (by simp only[zB,seval])
  rintro f2 H2 hk ⟨qI,xU⟩;rw[Bm] at qI
  exact⟨rfl,[],rfl,rfl,qI,xU⟩)
 exact⟨H',hS,hq⟩
def W89:CW Tryz.f89:=⟨_,cX⟩
theorem aNn:Fi 89 W89:=cN Tryz.func89 W89
theorem NI.alloc {H:aA} {p:Nat} {l:List Nat} (h:NI H p l) (o:dU):NI (H.alloc o) p l:=by obtain⟨v,h1,h2,h3⟩:=h;exact⟨v,by rw[aA.aG,if_neg (by omega)];exact h1,by simp only[aA.aR];omega,h3.alloc o⟩
theorem rR.alloc (H:aA) (o:dU) (p:Nat):rR H (H.alloc o) p:=⟨by simp only[aA.aR];omega,fun j cs o h1 h2 h3=>by rw[aA.aG,if_neg (by omega)];exact h3⟩
theorem Zz {H:aA} {p:Nat} {q:List Int} {pre:List Nat} (hw:NI H p pre) (h7:q.length=7) (hl:nI q) (hp:pre.length<2^38 -100):
 ∃H',Sound Tryz.prog gv 89 [.ref p 0,.agg (iC q)] H (.ret (iW [])) H'/\NI H' p (pre++eG q)/\rR H H' p:=by
 have BS:p<H.next:=by obtain⟨_,_,h,_⟩:=hw;exact h
 have hc:(iC q).length=7:=by rw[tR,h7]
 have hgq:(H.alloc (.cells (iC q) false)).get H.next=some (.cells (iC q) false):=by rw[aA.aG,if_pos rfl]
 have OX:∀x∈q.take 3,pF x:=fun x hx=>hl x (Bf hx);have hx2:∀x∈q.drop 3,pF x:=fun x hx=>hl x (Cy hx);have l1:(q.take 3).length=3:=by rw[Cb];omega
 have l2:(q.drop 3).length=4:=by rw[Cv];omega
 have r1:RdI (H.alloc (.cells (iC q) false)) p (.sl H.next 1 0 3 3) (q.take 3):=.inr (.inr ⟨H.next,0,3,iC q,false,by rw[l1],by omega,by simp only[aA.aR];omega,hgq,fun i hi=>⟨by omega,by rw[Cc,BT (by omega)];simp[show i<q.length by omega]⟩⟩);obtain⟨H1,S1,w1,t1⟩:=IE (hw.alloc _) r1 OX (by omega) (by omega);have rO:=t1.CL H.next _ _ (by simp only[aA.aR];omega) (by omega) hgq;have r2:RdI H1 p (.sl H.next 1 3 4 4) (q.drop 3):=.inr (.inr ⟨H.next,3,4,iC q,false,by rw[l2],by omega,by have :=t1.next;simp only[aA.aR] at this;omega,rO,fun i hi=>⟨by omega,by rw[BT (by omega)];simp[show 3+i<q.length by omega]⟩⟩);have uP:=jO OX;obtain⟨H2,S2,w2,t2⟩:=IE w1 r2 hx2 (by omega) (by rw[Ag];omega);rw[Bg,<-PN,Gw] at w2;refine⟨H2,dY aNn (Ae rfl) ?_ (by rfl),w2,((rR.alloc H _ p).trans t1).trans t2⟩;unfold W89;dsimp only;have sl1:=Kl (n:=3) (sz:=1) (off:=0) hgq (by decide) (by omega);have sl2:=Kl (n:=4) (sz:=1) (off:=3) rO (by decide) (by omega);refine aB fun K hK=>?_;simp only[↓zP,zG,seval,zI];apply hK;clear hK K;generalize H.alloc (.cells (iC q) false)=HA at *;refine eS fun f pH=>?_;have f0:f 0=.ref p 0:=by subst pH;simp only[zB,seval];exact rfl
 have f3:f 3=.ref H.next 0:=by subst pH;simp only[zB,seval]
 clear pH;refine aB fun K hK=>?_;simp only[↓zP,zG,seval,zI];apply hK;clear hK K;refine eS fun g xS=>?_;have g0:g 0=.ref p 0:=by subst xS;simp only[zB,seval];exact f0
 have g3:g 3=.ref H.next 0:=by subst xS;simp only[zB,seval];exact f3
 have g4:g 4=.func (.func 44) [.ref p 0] []:=by subst xS;simp only[zB,seval,f0]
 clear xS;refine aB fun K hK=>?_;simp only[↓zP,zG,seval,zI,cP,g3,g4,sl1];refine lF (by decide) (fs:=[.ref p 0]) (cs:=[]) (by simp only[fA,zB,seval]) (by simp only[Be,Ci,fA,zB,seval];rfl) S1 ?_;simp only[↓zP,seval];apply hK;clear hK K;simp only[↓zP,zG,seval,zI,cP,g3,g4,sl2];refine lF (by decide) (fs:=[.ref p 0]) (cs:=[]) (by simp only[fA,zB,seval]) (by simp only[Be,Ci,fA,zB,seval];rfl) S2 ?_;simp only[↓zP,seval];exact⟨rfl,[],rfl,rfl,rfl⟩
theorem _root_.Go.Av.Own.td {H H':aA} {sz:Nat} {v:AV} {els:List (List AV)} (h:Own H sz v els) (hn:H.next<=H'.next) (ho:∀j,j<H.next->H'.get j=H.get j):Own H' sz v els:=by
 rcases h with h1|⟨k,h1,h2,h3⟩
 . exact .inl h1
 exact .inr ⟨k,h1,by omega,by rw[ho _ h2];exact h3⟩
theorem JO (x:Int):eG [x]=dJ (mF x):=by simp[eG]
theorem Mq {H:aA} {p:Nat} {v:AV} {l:List (List Int)} {pre:List Nat} (hw:NI H p pre) (hv:mG v 7 (dQ l)) (hr:∀q∈l,q.length=7/\nI q) (hn:l.length<2^30) (hp:pre.length<2^37):
 ∃H',Sound Tryz.prog gv 45 [.ref p 0,v] H (.ret (iW [])) H'/\NI H' p (pre++lV l)/\rR H H' p:=by
 have lv:=hv.len;simp only[cD] at lv;rw[eL] at lv;have BS:p<H.next:=by obtain⟨_,_,h,_⟩:=hw;exact h
 have hnl:=eI (lQ (mJ (n:=l.length) (by omega)));obtain⟨H0,S0,w0,t0⟩:=IE hw (v:=.bH 1 1 [[.int .i64 l.length]]) (l:=[(l.length:Int)]) (.inr (.inl ⟨1,rfl⟩)) (fun x hx=>by rw[Dc] at hx;subst hx;exact mJ (by omega)) (by simp) (by omega);rw[JO] at w0
 obtain⟨_,H',⟨rfl,hq⟩,hS⟩:=bL (R:=fun o H'=>o=.ret (iW [])/\NI H' p (pre++lV l)/\rR H H' p) fit aIj (args:=[.ref p 0,v]) (H:=H) (Ae rfl) (by
  unfold W45;dsimp only;refine aB fun K hK=>?_;simp only[↓zP,zG,seval,zI,lv];refine cT (S0) ?_;simp only[↓zP,seval];apply hK;clear hK K;refine aB fun K hK=>?_;simp only[↓zP,zG,seval,zI,lv];apply hK;clear hK K;refine bV [] (fun i vs H'=>NI H' p (pre++dJ (mF l.length)++(l.take i).flatMap eG)/\rR H H' p) l.length (by omega) (by decide) ?_ ?_ ?_ ?_ ?_
  . simp only[zB,seval]
  . simp only[zB,seval]
  . exact⟨by simpa using w0,t0⟩
  . rintro i f4 H1 hi hk x1 ⟨uS,xU⟩;have u0:f4 0=.ref p 0:=by rw[hk 0 rfl];rfl
    have u11:f4 11=.bH 0 7 (dQ l):=(by rw[hk 11 rfl];simp only[zB,seval];exact hv.bH (i:=i) (by rw[eL];exact hi));have hg:=uA hi;obtain⟨h7,hx⟩:=hr _ (Ap hi);have qc:(iC l[i]).length=7:=(by rw[tR,h7]);rw[rZ _ hi,<-Bg];have pI:=wX (l:=l.take i) fun x hx=>hr x (Bf hx);rw[Cb] at pI;generalize l[i]=x at *;have hp1:p<H1.next:=(by have :=xU.next;omega);generalize hX:(H1.alloc (.cells [.int .i64 0,.int .i64 0,.int .i64 0,.int .i64 0,.int .i64 0,.int .i64 0,.int .i64 0] false)).set H1.next (.cells (iC x) false)=H3;have g5:H3.get H1.next=some (.cells (iC x) false):=(by subst hX;rw[aA.aI,if_pos rfl]);have ko:∀j,j<H1.next->H3.get j=H1.get j:=fun j hj=>by subst hX;rw[aA.aI,if_neg (by omega),aA.aG,if_neg (by omega)]
    have kn:H1.next<H3.next:=(by subst hX;simp only[aA.bD,aA.aR];omega);have s3:rR H1 H3 p:=⟨by omega,fun j cs o h1 _ h3=>(ko j h1).trans h3⟩
    have w3:NI H3 p (pre++dJ (mF l.length)++(l.take i).flatMap eG):=by obtain⟨w,a1,a2,a3⟩:=uS;exact⟨w,(ko p a2).trans a1,by omega,a3.td (by omega) ko⟩
    obtain⟨H4,S4,w4,s4⟩:=Zz w3 h7 hx (by simp only[Ag];omega);refine aS ?_;simp only[↓zP,zG,seval,zI,x1,u0,u11,aQ,eL,hi,hg,oL qc];rw[hX];refine cT (S4) ?_;simp only[↓zP,seval];exact⟨w4,(xU.trans s3).trans s4⟩
  rintro f2 H2 hk ⟨qI,xU⟩;rw[Bm,Bg] at qI
  exact⟨rfl,[],rfl,rfl,qI,xU⟩)
 exact⟨H',hS,hq⟩
def gF (k n:Int) (ps:List (List Int)):List Nat:=eG [k,n]++lV ps
theorem Xk {k n:Int} {pv:AV} {ps:List (List Int)} (hk:pF k) (hn:pF n) (hv:mG pv 7 (dQ ps)) (hr:∀q∈ps,q.length=7/\nI q) (hl:ps.length<2^30) (H:aA):
 Sound Tryz.prog gv 16 [.agg (oC k n pv)] H (.ret (.bH (H.next+2) 1 (aO (gF k n ps)))) (H.alloc .tok):=by
 refine fW dZ (by simp only[oC,sf,hv.free (dO _)]) (fL (by unfold gF eG;intro e;exact lD _ (List.append_eq_nil_iff.1 (List.append_eq_nil_iff.1 e).1).1)) (bW _) (bL fit aFm (Ae rfl) ?_ (by rfl)) H;unfold W16;dsimp only;obtain⟨HA,ED⟩:∃HA:aA,HA=((aA.mk 0 .nil).alloc (.cells [.int .i64 k,.int .i64 n,pv] false)).alloc (.cells [.aF] false):=⟨_,rfl⟩;have g0:HA.get 0=some (.cells [.int .i64 k,.int .i64 n,pv] false):=by subst ED;simp only[zI,seval]
 have gn:HA.next=2:=by subst ED;simp only[zI,seval]
 have w0:NI HA 1 []:=⟨.aF,by subst ED;simp only[zI,seval],by omega,.nil _ _⟩
 obtain⟨H1,S1,w1,t1⟩:=IE w0 (v:=.bH 1 1 [[.int .i64 k],[.int .i64 n]]) (l:=[k,n]) (.inr (.inl ⟨1,rfl⟩)) (fun x hx=>by
  simp only[Ah,Al,Bx] at hx
  rcases hx with rfl|rfl<;>assumption) (by simp) (by simp)
 have g1:=t1.CL 0 _ _ (by omega) (by decide) g0
 have l1:=jO (l:=[k,n]) fun x hx=>by
  simp only[Ah,Al,Bx] at hx
  rcases hx with rfl|rfl<;>assumption
 obtain⟨H2,S2,w2,t2⟩:=Mq w1 hv hr hl (by simp only[Ag,Ar,Ak] at l1 ⊢;omega);obtain⟨w,g2,_,ho⟩:=w2;simp only[↓zP,zG,seval,zI,oC];rw[<-ED];refine cT (S1) ?_;simp only[↓zP,zG,seval,zI,g1];refine cT (S2) ?_;simp only[↓zP,zG,seval,zI,g2];refine Rx ?_;exact⟨w,rfl,by simpa [gF] using ho⟩
structure Mz {α:Type} (f:List Nat->Nat->Option (α×Nat)) (enc:α->List Nat) (ok:α->Prop):Prop where
 app:∀x,ok x->∀pre r,f (pre++(enc x++r)) pre.length=some (x,pre.length+(enc x).length)
 take:∀b a x z,Bytes b->b.length<2^30->a<=b.length->f b a=some (x,z)->a<=z/\z<=b.length/\(b.drop a).take (z -a)=enc x/\ok x
def uC {α β:Type} (f:List Nat->Nat->Option (α×Nat)) (g:List Nat->Nat->Option (β×Nat)) (b:List Nat) (a:Nat):Option ((α×β)×Nat):=match f b a with
 |some (x,a')=>match g b a' with
  |some (y,z)=>some ((x,y),z)
  |none=>none
 |none=>none
theorem Kq {b:List Nat} {a m z:Nat} (h1:a<=m) (h2:m<=z):(b.drop a).take (z -a)=(b.drop a).take (m -a)++(b.drop m).take (z -m):=by rw[show z -a=(m -a)+(z -m) by omega,Je,Gt,show a+(m -a)=m by omega]
theorem Mz.seq {α β:Type} {f:List Nat->Nat->Option (α×Nat)} {g:List Nat->Nat->Option (β×Nat)} {e1:α->List Nat} {e2:β->List Nat} {ok1:α->Prop} {ok2:β->Prop} (h1:Mz f e1 ok1) (h2:Mz g e2 ok2):
 Mz (uC f g) (fun p=>e1 p.1++e2 p.2) (fun p=>ok1 p.1/\ok2 p.2):=by
 refine⟨fun x hx pre r=>?_,fun b a x z hb hl ha h=>?_⟩
 . have k1:=h1.app x.1 hx.1 pre (e2 x.2++r);have k2:=h2.app x.2 hx.2 (pre++e1 x.1) r;rw[Bg,Ag] at k2;simp only[uC,Bg,k1,k2,Ag,Bd]
 unfold uC at h;split at h
 . rename_i x1 a' hf;split at h
   . rename_i y z' hg;simp only[Ab,Ad] at h;obtain⟨rfl,rfl⟩:=h;obtain⟨c1,c2,c3,c4⟩:=h1.take b a _ _ hb hl ha hf;obtain⟨d1,d2,d3,d4⟩:=h2.take b a' _ _ hb hl c2 hg;exact⟨by omega,d2,by rw[Kq c1 d1,c3,d3],c4,d4⟩
   cases h
 cases h
def gm (n:Nat) (b:List Nat) (a:Nat):Option (List Int×Nat):=match kD b n a with
 |.ok p=>some p
 |.error _=>none
theorem Uh (n:Nat):Mz (gm n) eG (fun l=>l.length=n/\∀x∈l,pF x):=by
 refine⟨fun x hx pre r=>?_,fun b a x z hb hl ha h=>?_⟩
 . obtain⟨rfl,h⟩:=hx;have :=EB r x pre h;unfold gm eG;rw[this]
 unfold gm at h;split at h
 . rename_i p hp;obtain⟨l,z'⟩:=p;simp only[Ab,Ad] at h;obtain⟨rfl,rfl⟩:=h;obtain⟨c1,c2,c3,c4⟩:=sF ha hp;exact⟨by omega,c1,zH hb ha hp,c2,c4⟩
 cases h
def rH (b:List Nat):Nat->Nat->Option (List (List Int)×Nat)
 |0,a=>some ([],a)
 |n+1,a=>match gm 7 b a with
  |some (p,a')=>match rH b n a' with
   |some (l,z)=>some (p::l,z)
   |none=>none
  |none=>none
def okP (p:List Int):Prop:=p.length=7/\nI p
theorem QV (r:List Nat):∀(l:List (List Int)) (pre:List Nat),(∀p∈l,okP p)->rH (pre++(l.flatMap eG++r)) l.length pre.length=some (l,pre.length+(l.flatMap eG).length)
 |[],pre,h=>rfl
 |p::l,pre,h=>by have hp:=h p Aq;have k1:=(Uh 7).app p ⟨hp.1,hp.2⟩ pre (l.flatMap eG++r);have k2:=QV r l (pre++eG p) fun q hq=>h q (Ao _ hq);rw[Bg,Ag] at k2;simp only[Ak,rH,Cq,Bg,k1,k2,Ag,Bd]
theorem Me {b:List Nat} (hb:Bytes b) (hl:b.length<2^30):∀{n a:Nat} {l:List (List Int)} {z:Nat},a<=b.length->rH b n a=some (l,z)->a<=z/\z<=b.length/\(b.drop a).take (z -a)=l.flatMap eG/\l.length=n/\(∀p∈l,okP p)/\a+7*n<=z
 |0,a,l,z,ha,h=>by simp only[rH,Ab,Ad] at h;obtain⟨rfl,rfl⟩:=h;exact⟨Ai _,ha,by simp,rfl,(fun p hp=>by cases hp),by omega⟩
 |n+1,a,l,z,ha,h=>by
  unfold rH at h;split at h
  . rename_i p a' hg;split at h
    . rename_i l' z' hr;simp only[Ab,Ad] at h;obtain⟨rfl,rfl⟩:=h;obtain⟨c1,c2,c3,c4⟩:=(Uh 7).take b a _ _ hb hl ha hg;obtain⟨d1,d2,d3,d4,d5,d6⟩:=Me hb hl c2 hr
      have c7:a+7<=a':=by
       unfold gm at hg;split at hg
       . rename_i q hq;obtain⟨q1,q2⟩:=q;simp only[Ab,Ad] at hg;obtain⟨rfl,rfl⟩:=hg;exact(sF ha hq).2.2.1
       cases hg
      refine⟨by omega,d2,by rw[Kq c1 d1,c3,d3,Cq],by simp[d4],fun q hq=>?_,by omega⟩
      rcases Ah.1 hq with rfl|hq
      . exact⟨c4.1,c4.2⟩
      exact d5 q hq
    cases h
  cases h
def ZH (least:Nat) (b:List Nat) (a:Nat):Option (Nat×Nat):=match gm 1 b a with
 |some ([n],a')=>if n<0\/n>((b.length -a') / least:Nat) then none else some (n.toNat,a')
 |_=>none
def jA (b:List Nat) (a:Nat):Option (List (List Int)×Nat):=match ZH 7 b a with
 |some (n,a')=>rH b n a'
 |none=>none
theorem ff (l:List Int):l.length<=(eG l).length:=NV l
theorem PQ:∀{l:List (List Int)},(∀p∈l,okP p)->7*l.length<=(l.flatMap eG).length
 |[],_=>by simp
 |p::l,h=>by have h1:=ff p;have h2:=PQ (l:=l) fun q hq=>h q (Ao _ hq);have h3:=(h p Aq).1;rw[Cq,Ag,Ak];omega
theorem My:Mz jA lV (fun l=>l.length<2^30/\∀p∈l,okP p):=by
 refine⟨fun l hl pre r=>?_,fun b a x z hb hlen ha h=>?_⟩
 . obtain⟨h1,h2⟩:=hl;have hi:pF (l.length:Int):=mJ (by omega);have k1:=(Uh 1).app [(l.length:Int)] ⟨rfl,fun x hx=>by simp at hx;subst hx;exact hi⟩ pre (l.flatMap eG++r);have k2:=QV r l (pre++dJ (mF l.length)) h2;have k3:=PQ h2;rw[Bg,Ag] at k2;rw[JO] at k1;unfold jA ZH lV;rw[Bg,k1];simp only;rw[if_neg]
   . simp only[Gu,k2,Ag,Bd]
   have :l.length<=((pre++(dJ (mF l.length)++(l.flatMap eG++r))).length -(pre.length+(dJ (mF l.length)).length)) / 7:=by rw[Nat.le_div_iff_mul_le (by decide)];simp only[Ag];omega
   omega
 unfold jA at h;split at h
 . rename_i n a' hc;unfold ZH at hc;split at hc
   . rename_i n' a'' hg;split at hc
     . cases hc
     rename_i hn;simp only[Ab,Ad] at hc;obtain⟨rfl,rfl⟩:=hc;obtain⟨c1,c2,c3,c4⟩:=(Uh 1).take b a _ _ hb hlen ha hg;obtain⟨d1,d2,d3,d4,d5,d6⟩:=Me hb hlen c2 h;have LX:((x.length:Nat):Int)=n':=(by rw[d4];omega);refine⟨by omega,d2,?_,by omega,d5⟩;rw[Kq c1 d1,c3,d3,JO];unfold lV;rw[LX]
   cases hc
 cases h
def WE (b:List Nat) (a:Nat):Option (List Int×Nat):=if(eE (b.drop a)).e=0 then some ((eE (b.drop a)).l,a+(eE (b.drop a)).n) else none
theorem IH:Mz WE bC (fun l=>l.length<2^30/\∀x∈l,pF x):=by
 refine⟨fun l hl pre r=>?_,fun b a x z hb hlen ha h=>?_⟩
 . unfold WE;rw[List.drop_left' rfl,Vc hl.2 hl.1 r,if_pos rfl]
 unfold WE at h;split at h
 . rename_i h0;simp only[Ab,Ad] at h;obtain⟨rfl,rfl⟩:=h;have k1:=JX h0;have k2:=SA (hb.drop a) h0;rw[Cv] at k1;refine⟨by omega,by omega,?_,?_⟩
   . rw[Nat.add_sub_cancel_left];exact k2
   refine⟨?_,k1.2.2⟩
   have k3:(eE (b.drop a)).l.length<=(bC (eE (b.drop a)).l).length:=by
    have :=NV (eE (b.drop a)).l
    conv=>rhs;unfold bC
    rw[Ag];omega
   rw[<-k2,Cb,Cv] at k3;omega
 cases h
def CQ (b:List Nat) (a:Nat):Option (List Bool×Nat):=match WE b a with
 |some (l,z)=>if l.all (fun x=>x==0||x==1)=true then some (l.map (· ==1),z) else none
 |none=>none
theorem zF:∀l:List Bool,(bS l).all (fun x=>x==0||x==1)=true/\(bS l).map (· ==1)=l
 |[]=>⟨rfl,rfl⟩
 |b::l=>by obtain⟨h1,h2⟩:=zF l;simp only[bS,Be,Hg] at h1 h2 ⊢;rw[h1,h2];cases b<;>exact⟨rfl,rfl⟩
theorem PU:∀l:List Int,l.all (fun x=>x==0||x==1)=true->bS (l.map (· ==1))=l
 |[],_=>rfl
 |x::l,h=>by
  simp only[Hg,Aj] at h;have :=PU l h.2;simp only[bS,Be] at this ⊢;rw[this];have h1:=h.1;simp only[Dg,Dr] at h1
  rcases h1 with rfl|rfl<;>rfl
theorem tz:Mz CQ (fun l=>bC (bS l)) (fun l=>l.length<2^30):=by
 refine⟨fun l hl pre r=>?_,fun b a x z hb hlen ha h=>?_⟩
 . have :=IH.app (bS l) ⟨by simpa [bS] using hl,fN l⟩ pre r;unfold CQ;rw[this];simp only;rw[if_pos (zF l).1,(zF l).2]
 unfold CQ at h;split at h
 . rename_i l z' hr;split at h
   . rename_i nQ;simp only[Ab,Ad] at h;obtain⟨rfl,rfl⟩:=h;obtain⟨c1,c2,c3,c4⟩:=IH.take b a _ _ hb hlen ha hr;exact⟨c1,c2,by rw[c3,PU l nQ],by simpa using c4.1⟩
   cases h
 cases h
def AL:List Int->List (List Int)
 |x::y::z::r=>[x,y,z]::AL r
 |_=>[]
theorem Oz:∀{l:List (List Int)},(∀w∈l,w.length=3)->AL l.flatten=l
 |[],_=>rfl
 |w::l,h=>by
  have ih:=Oz (l:=l) fun v hv=>h v (Ao _ hv)
  match w,h w Aq with
  |[x,y,z],_=>simp only[Bo,Ev,Cg,AL,ih]
theorem PX:∀(n:Nat) {l:List Int},l.length=3*n->(AL l).flatten=l/\(AL l).length=n/\∀w∈AL l,w.length=3/\∀x∈w,x∈l
 |0,l,h=>by obtain rfl:l=[]:=Da (by omega);exact⟨rfl,rfl,fun w hw=>by cases hw⟩
 |n+1,l,h=>by
  match l,h with
  |x::y::z::r,h=>
   obtain⟨a1,a2,a3⟩:=PX n (l:=r) (by simp only[Ak] at h;omega);refine⟨by simp only[AL,Bo,a1];rfl,by simp only[AL,Ak,a2],fun w hw=>?_⟩;simp only[AL,Ah] at hw
   rcases hw with rfl|hw
   . exact⟨rfl,fun v hv=>by simp at hv;rcases hv with rfl|rfl|rfl<;>simp⟩
   exact⟨(a3 w hw).1,fun v hv=>by have :=(a3 w hw).2 v hv;simp[this]⟩
  |[],h=>simp at h
  |[_],h=>simp only[Ak,Ar] at h;omega
  |[_,_],h=>simp only[Ak,Ar] at h;omega
def GW (b:List Nat) (a:Nat):Option (List (List Int)×Nat):=match WE b a with
 |some (l,z)=>if l.length%3=0 then some (AL l,z) else none
 |none=>none
theorem aCv:Mz GW (fun l=>bC l.flatten) (fun l=>3*l.length<2^30/\∀w∈l,w.length=3/\nI w):=by
 refine⟨fun l hl pre r=>?_,fun b a x z hb hlen ha h=>?_⟩
 . have h3:=uG fun w hw=>(hl.2 w hw).1
   have :=IH.app l.flatten ⟨by omega,fun x hx=>by
    obtain⟨w,hw,hx⟩:=Fg.1 hx
    exact(hl.2 w hw).2 x hx⟩ pre r
   unfold GW;rw[this];simp only;rw[if_pos (by omega),Oz fun w hw=>(hl.2 w hw).1]
 unfold GW at h;split at h
 . rename_i l z' hr;split at h
   . rename_i hm;simp only[Ab,Ad] at h;obtain⟨rfl,rfl⟩:=h;obtain⟨c1,c2,c3,c4⟩:=IH.take b a _ _ hb hlen ha hr;obtain⟨d1,d2,d3⟩:=PX (l.length / 3) (l:=l) (by omega);exact⟨c1,c2,by rw[c3,d1],by have :=c4.1;omega,fun w hw=>⟨(d3 w hw).1,fun x hx=>c4.2 x ((d3 w hw).2 x hx)⟩⟩
   cases h
 cases h
def Kf (b:List Nat):Option ((List Int×List (List Int))×Nat):=uC (gm 2) jA b 0
def aBy (l:List (List Int)):Prop:=l.length<2^30/\∀p∈l,okP p
theorem ZI {k n:Int} {ps:List (List Int)} (hk:pF k) (hn:pF n) (hp:aBy ps) (r:List Nat):Kf (gF k n ps++r)=some (([k,n],ps),(gF k n ps).length):=by have :=((Uh 2).seq My).app ([k,n],ps) ⟨⟨rfl,fun x hx=>by simp at hx;rcases hx with rfl|rfl<;>assumption⟩,hp⟩ [] r;simp only[Cg,Ar,Cc] at this;exact this
theorem WG {b:List Nat} {l:List Int} {ps:List (List Int)} {z:Nat} (hb:Bytes b) (hl:b.length<2^30) (h:Kf b=some ((l,ps),z)):∃k n,l=[k,n]/\pF k/\pF n/\aBy ps/\z<=b.length/\b.take z=gF k n ps:=by
 obtain⟨h1,h2,h3,⟨h4,h5⟩,h6⟩:=((Uh 2).seq My).take b 0 _ _ hb hl (Cs _) h
 match l,h4,h5,h3 with
 |[k,n],_,h5,h3=>exact⟨k,n,rfl,h5 _ (by simp),h5 _ (by simp),h6,h2,by unfold gF;simpa using h3⟩
abbrev XL:Type:=List Bool×List (List Int)×List (List Int)×List (List Int)×List Bool×List Bool
def wI (b:List Nat):Option (XL×Nat):=uC CQ (uC jA (uC GW (uC GW (uC CQ CQ)))) b 0
def qO (b:List Nat):Option XL:=match wI b with
 |some (d,z)=>if z=b.length/\d.2.2.1.length=d.2.2.2.1.length then some d else none
 |none=>none
def GP (d:XL):List Nat:=bC (bS d.1)++lV d.2.1++bC d.2.2.1.flatten++bC d.2.2.2.1.flatten++bC (bS d.2.2.2.2.1)++bC (bS d.2.2.2.2.2)
def okT (d:XL):Prop:=d.1.length<2^30/\aBy d.2.1/\(3*d.2.2.1.length<2^30/\∀w∈d.2.2.1,w.length=3/\nI w)/\(3*d.2.2.2.1.length<2^30/\∀w∈d.2.2.2.1,w.length=3/\nI w)/\d.2.2.2.2.1.length<2^30/\d.2.2.2.2.2.length<2^30
theorem ZJ {d:XL} (h:okT d) (hw:d.2.2.1.length=d.2.2.2.1.length):qO (GP d)=some d:=by
 have :=(tz.seq (My.seq (aCv.seq (aCv.seq (tz.seq tz))))).app d h [] [];simp only[Cg,Cf,Ar,Cc] at this;have e:bC (bS d.1)++(lV d.2.1++(bC d.2.2.1.flatten++(bC d.2.2.2.1.flatten++(bC (bS d.2.2.2.2.1)++bC (bS d.2.2.2.2.2)))))=GP d:=by unfold GP;simp only[Bg]
 rw[e] at this;unfold qO;rw[show wI (GP d)=_ from this];exact if_pos ⟨rfl,hw⟩
theorem WI {b:List Nat} {d:XL} (hb:Bytes b) (hl:b.length<2^30) (h:qO b=some d):okT d/\GP d=b:=by
 unfold qO at h;split at h
 . rename_i d' z hd;split at h
   . rename_i hc;obtain rfl:=Aa h;obtain⟨h1,h2,h3,h4⟩:=(tz.seq (My.seq (aCv.seq (aCv.seq (tz.seq tz))))).take b 0 _ _ hb hl (Cs _) hd;refine⟨h4,?_⟩;have e:GP d'=bC (bS d'.1)++(lV d'.2.1++(bC d'.2.2.1.flatten++(bC d'.2.2.2.1.flatten++(bC (bS d'.2.2.2.2.1)++bC (bS d'.2.2.2.2.2))))):=(by unfold GP;simp only[Bg]);rw[e,<-h3,hc.1];simp
   cases h
 cases h
theorem GL (H:aA):Sound Tryz.prog gv 95 [.aF] H (.ret (dM []).av) H:=by
 refine dY aIp (Ae rfl) ?_ (by rfl);unfold W95;dsimp only;refine aB fun K hK=>?_;simp only[↓zP,zG,seval];apply hK;clear hK K;refine aB fun K hK=>?_;simp only[↓zP,zG,seval];apply hK;clear hK K;refine aB fun K hK=>?_;simp only[↓zP,zG,seval];apply hK;clear hK K;refine aB fun K hK=>?_;simp only[↓zP,seval];apply hK;clear hK K;refine aB fun K hK=>?_;refine aB fun K2 bO=>?_;simp only[↓zP,zG,seval,zI];apply bO;clear bO K2;refine bV [6] (fun i vs h=>h=H/\vs=[.int .i64 0]) 0 (by decide) (by decide) ?_ ?_ ?_ ?_ ?_
 . simp only[zB,seval]
 . simp only[zB,seval]
 . exact⟨rfl,by simp only[sm,zB,seval]⟩
 . rintro i f H1 hi;exact absurd hi (Bh _)
 rintro f H1 hk ⟨rfl,gV⟩;have f6:f 6=.int .i64 0:=by simpa only[sm,Am,Bs] using gV
 simp only[↓zP,seval];apply hK;clear hK K;simp only[↓zP,zG,seval,f6];refine Rx ?_;exact⟨by simp[dM,uget,TR.av,iW],rfl⟩
theorem Qo {least:Int} (H:aA):Sound Tryz.prog gv 151 [.aF,.int .i64 least] H (.ret (.eZ [.int .i64 0,.int .i64 0,.int .i64 10])) H:=by
 refine dY rf (Ae rfl) ?_ (by rfl);unfold cc;dsimp only;have hg:(dM []).av=.eZ [.int .i64 0,.int .i64 0,.int .i64 10]:=by simp[dM,uget,TR.av]
 have hS:=GL H;rw[hg] at hS;refine aB fun K hK=>?_;simp only[↓zP,zG,seval];apply hK;clear hK K;refine aB fun K hK=>?_;simp only[↓zP,zG,seval,zI];refine cT (hS) ?_;simp only[↓zP,zG,seval,zI];apply hK;clear hK K;refine aB fun K hK=>?_;refine aS ?_;simp only[↓zP,zG,seval];refine Rx ?_;exact⟨rfl,rfl⟩
theorem Zx (H:aA):Sound Tryz.prog gv 119 [.aF,.int .i64 1,.func (.func 95) [] []] H (.ret (.eZ [.aF,.int .i64 0,.int .i64 10])) H:=by refine dY qz (Ae rfl) ?_ (by rfl);unfold Uw;dsimp only;have hS:=Qo (least:=1) H;refine aB fun K hK=>?_;simp only[↓zP,zG,seval];apply hK;clear hK K;refine aB fun K hK=>?_;simp only[↓zP,zG,seval,zI];refine cT (hS) ?_;simp only[↓zP,zG,seval,zI];apply hK;clear hK K;refine aB fun K hK=>?_;simp only[↓zP,zG,seval];refine Rx ?_;exact⟨rfl,rfl⟩
theorem ON (H:aA):Sound Tryz.prog gv 99 [.aF] H (.ret (.eZ [.aF,.int .i64 0,.int .i64 10])) H:=by refine dY aIq (Ae rfl) ?_ (by rfl);unfold W99;dsimp only;refine aB fun K hK=>?_;simp only[↓zP,zG,seval];apply hK;clear hK K;simp only[↓zP,zG,seval,zI];refine cT (Zx H) ?_;simp only[↓zP,zG,seval,zI];refine Rx ?_;exact⟨rfl,rfl⟩
def xZ (H:aA) (p:Nat) (v:AV) (b:List Nat) (a:Nat):Prop:=H.get p=some (.cells [v,.int .i64 a] false)/\mG v 1 (aO b)/\a<=b.length/\p<H.next
def rd (b:List Nat) (a:Nat):Option (Int×Nat):=if(dM (b.drop a)).e=0 then some ((dM (b.drop a)).v,a+(dM (b.drop a)).n) else none
def gH:AV:=.iface 133 (.agg [])
theorem XE {P:Program} {g:aT} {n:Nat} {pairs:List (Nat×Nat)} {base:Nat} {i k:Nat} {rs:List aN} {rd:List (Nat×Nat)} {ef:List (Nat×aA×aA)} {f:cQ} {H:aA} {R:cQ->aA->Prop}
 {d:Nat} {c:Arg} {fid:FuncId} {fs cs:List AV} {xs:List Arg} {args:List AV} {v:AV} {H':aA} (hd:d<n) (hc:jD g f c=.func (.func fid) fs cs) (ha:fs++xs.map (jD g f)++cs=args) (hS:Sound P g fid args H (.ret v) H') (hn:H.next<=H'.next)
 (hr:∀x∈rd,(x.1,i)∈pairs->H.get x.2=H'.get x.2)
 (h:dX P g n pairs base (i+1) k rs rd ((i,H,H')::ef) (iA f d v) H' R):dX P g n pairs base i k (⟨some d,.call c xs,none⟩::rs) rd ef f H R:=by
 have :∀v,eF n f (some d) v=iA f d v:=fun v=>by simp[eF,hd]
 unfold dX;rw[if_pos (by rfl)];simp only[this];refine⟨v,H',?_,hn,hr,h⟩;exact⟨(fid,fs,cs),by rw[hc];rfl,by rw[ha];exact hS⟩
theorem Qg {v:AV} {b:List Nat} {a:Nat} (hv:mG v 1 (aO b)) (ha:a<=b.length):(∃w,lN 1 v (some a) none none=some w/\((w=.aF/\b.drop a=[])\/∃tag,w=.bH tag 1 (aO (b.drop a)))):=by
 rcases hv with ⟨rfl,h⟩|rfl
 . have hb:b=[]:=by simpa [aO] using h
   subst hb;have :a=0:=(by simpa using ha);subst this;exact⟨.aF,rfl,.inl ⟨rfl,rfl⟩⟩
 obtain⟨Wa,_,FX⟩:=Km 0 1 (els:=aO b) (a:=a) (by rw[bB];exact ha);rw[FG] at FX;exact⟨_,FX,.inr ⟨Wa,rfl⟩⟩
theorem Zj {H:aA} {p:Nat} {v:AV} {b:List Nat} {a:Nat} (hr:xZ H p v b a) (hb:Bytes b) (hl:b.length<2^30):
 match rd b a with
 |some (x,a')=>Sound Tryz.prog gv 94 [.ref p 0,.func (.func 95) [] []] H (.ret (.int .i64 x)) (H.set p (.cells [v,.int .i64 a'] false))
 |none=>Sound Tryz.prog gv 94 [.ref p 0,.func (.func 95) [] []] H (.pA gH) H:=by
 obtain⟨hp,hv,ha,ik⟩:=hr;obtain⟨w,FX,hw⟩:=Qg hv ha
 have hS:Sound Tryz.prog gv 95 [w] H (.ret (dM (b.drop a)).av) H:=by
  rcases hw with ⟨rfl,h⟩|⟨tag,rfl⟩
  . rw[h];exact GL H
  exact AK (hb.drop a) (by simp;omega) H
 have vS:=fun h=>tN (b:=b.drop a) h;rw[Cv] at vS
 have RC:rd b a=if(dM (b.drop a)).e=0 then some ((dM (b.drop a)).v,a+(dM (b.drop a)).n) else none:=rfl
 obtain⟨g,hg⟩:∃g,dM (b.drop a)=g:=⟨_,rfl⟩;rw[hg] at hS vS RC
 have walk:∀{out:Out} {H':aA},(g.e≠0->out=.pA gH/\H'=H)->(g.e=0->out=.ret (.int .i64 g.v)/\H'=H.set p (.cells [v,.int .i64 (a+g.n:Nat)] false))->Sound Tryz.prog gv 94 [.ref p 0,.func (.func 95) [] []] H out H':=fun {out H'} h1 h2=>by
  refine dY aNr (Ae rfl) ?_ (by rfl);unfold W94;dsimp only;refine aB fun K hK=>?_;simp only[↓zP,zG,seval];apply hK;clear hK K;refine aB fun K hK=>?_;refine bK (by decide) ?_;simp only[↓zP,zG,seval,zD,reduceCtorEq,zI,hp,cP,aQ,FX,Ca];refine XE (by decide) rfl rfl hS (Ai _) (fun _ _ _=>rfl) ?_;simp only[↓zP,zG,seval,zD,reduceCtorEq,zI,TR.av];apply hK;clear hK K;refine aB fun K hK=>?_;by_cases he:g.e=0
  . obtain⟨rfl,rfl⟩:=h2 he;have ok:=vS he;simp only[↓zP,zG,seval,he];apply hK;clear hK K;refine aB fun K hK=>?_;have uS:IntKind.i64.wrap ((a:Int)+(g.n:Int))=((a+g.n:Nat):Int):=by rw[wrap_i64 (by omega) (by omega)];omega
    simp only[↓zP,zG,seval,zI,hp,uS];apply hK;clear hK K;simp only[↓zP,zG,seval];refine Rx ?_;exact⟨rfl,rfl⟩
  obtain⟨rfl,rfl⟩:=h1 he;have z0:(g.e != 0)=true:=by rw[El];exact he
  simp only[↓zP,zG,seval,zI,z0];refine jJ (t:=133) (v:=.agg []) (by simp only[↓zP,seval]) ?_;refine⟨rfl,?_⟩;exact⟨rfl,rfl⟩
 by_cases he:g.e=0
 . rw[RC,if_pos he];exact walk (fun h=>absurd he h) fun _=>⟨rfl,rfl⟩
 rw[RC,if_neg he];exact walk (fun _=>⟨rfl,rfl⟩) fun h=>absurd h he
def fF (H H':aA) (p:Nat):Prop:=H.next<=H'.next/\∀j,j<H.next->j≠p->H'.get j=H.get j
theorem fF.refl (H:aA) (p:Nat):fF H H p:=⟨Ai _,fun _ _ _=>rfl⟩
theorem fF.trans {H H1 H2:aA} {p:Nat} (h:fF H H1 p) (k:fF H1 H2 p):fF H H2 p:=⟨By h.1 k.1,fun j h1 h2=>(k.2 j (Aw h1 h.1) h2).trans (h.2 j h1 h2)⟩
theorem fF.set (H:aA) (p:Nat) (o:dU):fF H (H.set p o) p:=⟨Ai _,fun j _ h=>by rw[aA.aI,if_neg h]⟩
theorem fF.alloc (H:aA) (p:Nat) (o:dU):fF H (H.alloc o) p:=⟨by simp only[aA.aR];omega,fun j h _=>by rw[aA.aG,if_neg (by omega)]⟩
theorem xZ.alloc {H:aA} {p:Nat} {v:AV} {b:List Nat} {a:Nat} (h:xZ H p v b a) (o:dU):xZ (H.alloc o) p v b a:=by obtain⟨h1,h2,h3,h4⟩:=h;exact⟨by rw[aA.aG,if_neg (by omega)];exact h1,h2,h3,by simp only[aA.aR];omega⟩
theorem xZ.other {H:aA} {p:Nat} {v:AV} {b:List Nat} {a:Nat} (h:xZ H p v b a) {k:Nat} (hk:k≠p) (o:dU):xZ (H.set k o) p v b a:=by obtain⟨h1,h2,h3,h4⟩:=h;exact⟨by rw[aA.aI,if_neg (by omega)];exact h1,h2,h3,h4⟩
def LJ {α:Type} (val:α->AV->Prop) (H:aA) (p:Nat) (v:AV) (b:List Nat) (r:Option (α×Nat)) (o:Out) (H':aA):Prop:=fF H H' p/\match r with
 |some q=>(∃w,o=.ret w/\val q.1 w)/\xZ H' p v b q.2
 |none=>o=.pA gH
def XJ {α:Type} (fid:Nat) (args:List AV) (val:α->AV->Prop) (H:aA) (p:Nat) (v:AV) (b:List Nat) (r:Option (α×Nat)):Prop:=∃o H',LJ val H p v b r o H'/\Sound Tryz.prog gv fid args H o H'
theorem XJ.none {α:Type} {fid:Nat} {args:List AV} {val:α->AV->Prop} {H:aA} {p:Nat} {v:AV} {b:List Nat} {r:Option (α×Nat)} (h:XJ fid args val H p v b r) (hr:r=none):∃H',Sound Tryz.prog gv fid args H (.pA gH) H'/\fF H H' p:=by subst hr;obtain⟨o,H',⟨h1,rfl⟩,h2⟩:=h;exact⟨H',h2,h1⟩
theorem XJ.some {α:Type} {fid:Nat} {args:List AV} {val:α->AV->Prop} {H:aA} {p:Nat} {v:AV} {b:List Nat} {r:Option (α×Nat)} (h:XJ fid args val H p v b r) {q:α×Nat} (hr:r=some q):
 ∃w H',Sound Tryz.prog gv fid args H (.ret w) H'/\val q.1 w/\xZ H' p v b q.2/\fF H H' p:=by
 subst hr;obtain⟨o,H',⟨h1,⟨w,rfl,h3⟩,h4⟩,h2⟩:=h;exact⟨w,H',h2,h3,h4,h1⟩
def Lf (x:Int) (w:AV):Prop:=w=.int .i64 x
theorem ZK {b:List Nat} {a:Nat} {x:Int} {z:Nat} (ha:a<=b.length) (h:rd b a=.some (x,z)):a<z/\z<=b.length/\pF x:=by
 unfold rd at h;split at h
 . rename_i h0;simp only[Ab,Ad] at h;obtain⟨rfl,rfl⟩:=h;obtain⟨h1,h2,h3,h4⟩:=tN h0;rw[Cv] at h2;exact⟨by omega,by omega,h4⟩
 cases h
theorem HO (b:List Nat) (a:Nat):gm 0 b a=.some ([],a):=rfl
theorem BN (n:Nat) (b:List Nat) (a:Nat):gm (n+1) b a=match rd b a with
 |.some (x,z)=>match gm n b z with
  |.some (l,z')=>.some (x::l,z')
  |.none=>.none
 |.none=>.none:=by
 unfold gm rd;rw[kD];by_cases h:(dM (b.drop a)).e=0
 . rw[if_neg (by simpa using h),if_pos h];simp only
   cases kD b n (a+(dM (b.drop a)).n) with
   |ok q=>rfl
   |error e=>rfl
 rw[if_pos h,if_neg h]
theorem JY (b:List Nat) (a:Nat):gm 1 b a=match rd b a with
 |.some (x,z)=>.some ([x],z)
 |.none=>.none:=by
 rw[BN]
 cases rd b a with
 |none=>rfl
 |some q=>obtain⟨x,z⟩:=q;simp only[HO]
theorem vU {H:aA} {p:Nat} {v:AV} {b:List Nat} {a:Nat} (hr:xZ H p v b a) (hb:Bytes b) (hl:b.length<2^30):XJ 56 [.ref p 0] Lf H p v b (rd b a):=by
 have ht:=Zj hr hb hl;have eW:=fun x z=>ZK (x:=x) (z:=z) hr.2.2.1;refine bL fit aMr (Ae rfl) ?_;unfold W56;dsimp only;refine aB fun K hK=>?_;simp only[↓zP,zG,seval];apply hK;clear hK K;simp only[↓zP,zG,seval,zI]
 cases h:rd b a with
 |none=>rw[h] at ht;refine eU (by simp only[Be,Ci,zB,seval]) ht ?_;exact⟨rfl,fF.refl _ _,rfl⟩
 |some q=>obtain⟨x,z⟩:=q;rw[h] at ht;refine cT (ht) ?_;simp only[↓zP,zG,seval];refine Rx ?_;exact⟨fF.set _ _ _,⟨_,rfl,rfl⟩,by rw[aA.aI,if_pos rfl],hr.2.1,(eW x z h).2.1,hr.2.2.2⟩
def HF (l:List Int) (w:AV):Prop:=(w=.aF/\l=[])\/∃tag,w=.bH tag 1 (bU l)
theorem Zr (H:aA) (l:List Int):HF l (Nv H 1 (bU l)):=by
 unfold Nv HF;by_cases h:bU l=[]
 . rw[if_pos h];exact .inl ⟨rfl,by simpa [bU] using h⟩
 rw[if_neg h];exact .inr ⟨_,rfl⟩
theorem fF.own (H:aA) (p:Nat) (els:List (List AV)):fF H (KX H els) p:=by
 unfold KX;by_cases h:els=[]
 . rw[if_pos h];exact .refl _ _
 rw[if_neg h];exact .alloc _ _ _
theorem xZ.own {H:aA} {p:Nat} {v:AV} {b:List Nat} {a:Nat} (h:xZ H p v b a) (els:List (List AV)):xZ (KX H els) p v b a:=by
 unfold KX;by_cases he:els=[]
 . rw[if_pos he];exact h
 rw[if_neg he];exact h.alloc _
theorem Wc {H:aA} {p:Nat} {v:AV} {b:List Nat} {a:Nat} (hr:xZ H p v b a) (hb:Bytes b) (hl:b.length<2^30):XJ 98 [.ref p 0,.func (.func 99) [] []] HF H p v b (WE b a):=by
 have LH:=hr;obtain⟨hp,hv,ha,ik⟩:=hr;obtain⟨w,FX,hw⟩:=Qg hv ha;have vS:=fun h=>JX (b:=b.drop a) h;rw[Cv] at vS
 have RC:WE b a=if(eE (b.drop a)).e=0 then .some ((eE (b.drop a)).l,a+(eE (b.drop a)).n) else .none:=rfl
 obtain⟨y,H1,hS,h1,h2,h3⟩:∃y H1,Sound Tryz.prog gv 99 [w] H (.ret (.eZ [y,.int .i64 (eE (b.drop a)).n,.int .i64 (eE (b.drop a)).e])) H1/\fF H H1 p/\HF (eE (b.drop a)).l y/\xZ H1 p v b a:=by
  rcases hw with ⟨rfl,h⟩|⟨tag,rfl⟩
  . rw[h];exact⟨_,_,ON H,.refl _ _,.inl ⟨rfl,rfl⟩,LH⟩
  exact⟨_,_,Qn (hb.drop a) (by simp;omega) H,.own _ _ _,Zr _ _,LH.own _⟩
 obtain⟨g,hg⟩:∃g,eE (b.drop a)=g:=⟨_,rfl⟩;rw[hg] at hS vS RC h2;refine bL fit aNu (Ae rfl) ?_;unfold W98;dsimp only;refine aB fun K hK=>?_;simp only[↓zP,zG,seval];apply hK;clear hK K;refine aB fun K hK=>?_;refine bK (by decide) ?_;simp only[↓zP,zG,seval,zD,reduceCtorEq,zI,hp,cP,aQ,FX,Ca];refine XE (by decide) rfl rfl hS h1.1 (fun x hx hp=>?_) ?_
 . simp only[Ah,Al,Bx] at hx
   rcases hx with rfl|rfl<;>cases hp<;>contradiction
 simp only[↓zP,zG,seval,zD,reduceCtorEq,zI];apply hK;clear hK K;refine aB fun K hK=>?_;by_cases he:g.e=0
 . have ok:=vS he;have uS:IntKind.i64.wrap ((a:Int)+(g.n:Int))=((a+g.n:Nat):Int):=by rw[wrap_i64 (by omega) (by omega)];omega
   simp only[↓zP,zG,seval,he];apply hK;clear hK K;refine aB fun K hK=>?_;simp only[↓zP,zG,seval,zI,h3.1,uS];apply hK;clear hK K;simp only[↓zP,zG,seval];refine Rx ?_;rw[RC,if_pos he];exact⟨h1.trans (fF.set _ _ _),⟨_,rfl,h2⟩,by rw[aA.aI,if_pos rfl],hv,by omega,h3.2.2.2⟩
 have z0:(g.e != 0)=true:=by rw[El];exact he
 simp only[↓zP,zG,seval,zI,z0];refine jJ (t:=133) (v:=.agg []) (by simp only[↓zP,seval]) ?_;refine⟨rfl,?_⟩;rw[RC,if_neg he];exact⟨h1,rfl⟩
theorem oB {H:aA} {p:Nat} {v:AV} {b:List Nat} {a:Nat} (hr:xZ H p v b a) (hb:Bytes b) (hl:b.length<2^30):XJ 61 [.ref p 0,.int .i64 (-1)] HF H p v b (WE b a):=by
 have ht:=Wc hr hb hl;refine bL fit aMx (Ae rfl) ?_;unfold W61;dsimp only;refine aB fun K hK=>?_;simp only[↓zP,zG,seval];apply hK;clear hK K;refine aB fun K hK=>?_;simp only[↓zP,zG,seval,zI]
 cases h:WE b a with
 |none=>obtain⟨H1,hS,h1⟩:=ht.none h;refine eU (by simp only[Be,Ci,zB,seval]) hS ?_;exact⟨rfl,h1,rfl⟩
 |some q=>obtain⟨w,H1,hS,h1,h2,h3⟩:=ht.some h;refine cT (hS) ?_;simp only[↓zP,zG,seval];apply hK;clear hK K;refine aB fun K hK=>?_;simp only[↓zP,zG,seval,zI];apply hK;clear hK K;refine aB fun K hK=>?_;simp only[↓zP,zG,seval];apply hK;clear hK K;simp only[↓zP,seval];refine Rx ?_;rw[h];exact⟨h3,⟨_,rfl,h1⟩,h2⟩
theorem jt {H:aA} {p:Nat} {v:AV} {b:List Nat} {a:Nat} (hr:xZ H p v b a) (hb:Bytes b) (hl:b.length<2^30):XJ 96 [.ref p 0,.int .i64 7] (fun n w=>w=.int .i64 n) H p v b ((ZH 7 b a).map fun q=>((q.1:Int),q.2)):=by
 have ht:=vU hr hb hl;have lv:=hr.2.1.len;simp only[cD] at lv;rw[bB] at lv;refine bL fit aNs (Ae rfl) ?_;unfold W96;dsimp only;refine aB fun K hK=>?_;simp only[↓zP,zG,seval];apply hK;clear hK K;refine aB fun K hK=>?_;simp only[↓zP,zG,seval,zI]
 cases h:rd b a with
 |none=>
  obtain⟨H1,hS,h1⟩:=ht.none h;refine eU (by simp only[Be,Ci,zB,seval]) hS ?_;have :ZH 7 b a=none:=by simp only[ZH,JY,h]
  rw[this];exact⟨rfl,h1,rfl⟩
 |some q=>
  obtain⟨w,H1,hS,h1,h2,h3⟩:=ht.some h;obtain⟨x,z⟩:=q;cases h1;obtain⟨g1,g2,g3⟩:=ZK hr.2.2.1 h
  have hC:ZH 7 b a=if x<0\/x>((b.length -z) / 7:Nat) then none else some (x.toNat,z):=by simp only[ZH,JY,h]
  refine cT (hS) ?_;simp only[↓zP,zG,seval];apply hK;clear hK K;refine aB fun K hK=>?_;refine aB fun K2 bO=>?_;by_cases c1:x<0
  . have z1:decide (x<0)=true:=Bk c1;refine bK (by decide) ?_;simp only[↓zP,zG,seval,zD,reduceCtorEq,zI,z1];apply bO;clear bO K2;simp only[↓zP,zG,seval,zI];refine jJ (t:=133) (v:=.agg []) (by simp only[↓zP,seval]) ?_;rw[hC,if_pos (.inl c1)];exact⟨rfl,h3,rfl⟩
  have z1:decide (x<0)=false:=As c1;have uS:IntKind.i64.wrap ((b.length:Int) -(z:Int))=((b.length -z:Nat):Int):=by rw[wrap_i64 (by omega) (by omega)];omega
  have qI:IntKind.i64.wrap (((b.length -z:Nat):Int).tdiv 7)=(((b.length -z) / 7:Nat):Int):=by rw[Hw (by omega),wrap_i64 (by omega) (by omega)];omega
  refine bK (by decide) ?_;simp only[↓zP,zG,seval,zD,reduceCtorEq,zI,z1,h2.1,lv,uS,qI];apply bO;clear bO K2;by_cases c2:x>(((b.length -z) / 7:Nat):Int)
  . have z2:decide (x>(((b.length -z) / 7:Nat):Int))=true:=Bk c2;simp only[↓zP,zG,seval,zI,z2];refine jJ (t:=133) (v:=.agg []) (by simp only[↓zP,seval]) ?_;rw[hC,if_pos (.inr c2)];exact⟨rfl,h3,rfl⟩
  have z2:decide (x>(((b.length -z) / 7:Nat):Int))=false:=As c2;simp only[↓zP,zG,seval,z2];apply hK;clear hK K;simp only[↓zP,zG,seval];refine Rx ?_;rw[hC,if_neg (not_or.2 ⟨c1,c2⟩)];exact⟨h3,⟨_,rfl,by show _=_;simp only[iW];rw[Gi (by omega)]⟩,h2⟩
def W97:CW Tryz.f97:=⟨_,cX⟩
theorem aNt:Fi 97 W97:=cN Tryz.func97 W97
def W57:CW Tryz.f57:=⟨_,cX⟩
theorem aMs:Fi 57 W57:=cN Tryz.func57 W57
def W59:CW Tryz.f59:=⟨_,cX⟩
theorem aMu:Fi 59 W59:=cN Tryz.func59 W59
def W60:CW Tryz.f60:=⟨_,cX⟩
theorem aMw:Fi 60 W60:=cN Tryz.func60 W60
def W54:CW Tryz.f54:=⟨_,cX⟩
theorem aMp:Fi 54 W54:=cN Tryz.func54 W54
def W55:CW Tryz.f55:=⟨_,cX⟩
theorem aMq:Fi 55 W55:=cN Tryz.func55 W55
def W21:CW Tryz.f21:=⟨_,cX⟩
theorem aLw:Fi 21 W21:=cN Tryz.func21 W21
def W58:CW Tryz.f58:=⟨_,xV⟩
theorem aMt:Fi 58 W58:=cN Tryz.func58 W58
def W22:CW Tryz.f22:=⟨_,cX⟩
theorem aLx:Fi 22 W22:=cN Tryz.func22 W22
theorem HN:∀(n:Nat) (b:List Nat) (a:Nat),gm (n+1) b a=(match gm n b a with
 |.some (l,z)=>match rd b z with
  |.some (x,z')=>.some (l++[x],z')
  |.none=>.none
 |.none=>.none)
 |0,b,a=>by rw[JY,HO];simp only;cases rd b a<;>rfl
 |n+1,b,a=>by
  rw[BN (n+1),BN n]
  cases h:rd b a with
  |none=>rfl
  |some q=>
   obtain⟨x,z⟩:=q;simp only;rw[HN n b z]
   cases h2:gm n b z with
   |none=>rfl
   |some q2=>obtain⟨l,z2⟩:=q2;simp only;cases h3:rd b z2<;>rfl
theorem fu {n k:Nat} {b:List Nat} {a:Nat} (h:gm n b a=none) (hk:n<=k):gm k b a=none:=by
 induction k with
 |zero=>obtain rfl:n=0:=by omega
        exact h
 |succ k ih=>
  rcases Dt k n with h1|h1
  . obtain rfl:n=k+1:=by omega
    exact h
  rw[HN,ih h1]
theorem NY:∀{n:Nat} {b:List Nat} {a:Nat} {l:List Int} {z:Nat},gm n b a=.some (l,z)->l.length=n
 |0,b,a,l,z,h=>by rw[HO] at h;cases h;rfl
 |n+1,b,a,l,z,h=>by
  rw[BN] at h;split at h
  . split at h
    . rename_i h1 _ _ h2;cases h;simp[NY h2]
    cases h
  cases h
def zC (l:List Int) (n:Nat):List AV:=iC l++List.replicate n (.int .i64 0)
def wT (H H1:aA) (p:Nat) (v:AV) (b:List Nat) (a i:Nat):Prop:=∃l z,gm i b a=.some (l,z)/\H1.get H.next=some (.cells (zC l (7 -i)) false)/\xZ H1 p v b z/\fF H H1 p/\H.next<H1.next
theorem aCq (l:List Int) (n:Nat):(zC l n).length=l.length+n:=by simp[zC,iC]
theorem aCr {l:List Int} {n i:Nat} {x:Int} (h:l.length=i):eR (zC l (n+1)) i [.int .i64 x]=zC (l++[x]) n:=by
 subst h;have e1:(iC l).length=l.length:=by simp[iC]
 unfold eR zC;rw[Ef (by omega),Bl (by omega),List.drop_append,Io (by simp[e1])];simp[iC,Ep]
theorem wT.next {H H1 H2:aA} {p:Nat} {v:AV} {b:List Nat} {a i z z':Nat} {l:List Int} {x:Int} (ik:p<H.next) (h1:gm i b a=.some (l,z)) (h2:H1.get H.next=some (.cells (zC l (7 -i)) false)) (h4:fF H H1 p) (h5:H.next<H1.next)
 (h:rd b z=.some (x,z')) (k2:xZ H2 p v b z') (k3:fF H1 H2 p) (hi:i<7):H2.get H.next=some (.cells (zC l (7 -i)) false)/\i+1<=(zC l (7 -i)).length/\wT H (H2.set H.next (.cells (eR (zC l (7 -i)) i [.int .i64 x]) false)) p v b a (i+1):=by
 have g2:H2.get H.next=some (.cells (zC l (7 -i)) false):=(k3.2 _ h5 (by omega)).trans h2;have hl:=NY h1;refine⟨g2,by rw[aCq];omega,l++[x],z',?_,?_,k2.other (by omega) _,?_,?_⟩
 . rw[HN,h1];simp only[h]
 . rw[aA.aI,if_pos rfl,show 7 -i=(7 -(i+1))+1 by omega,aCr hl]
 . have :=h4.trans k3;exact⟨this.1,fun j j1 j2=>by rw[aA.aI,if_neg (by omega)];exact this.2 j j1 j2⟩
 have :=k3.1;show H.next<H2.next;omega
theorem lg {H:aA} {p:Nat} {v:AV} {b:List Nat} {a:Nat} (hr:xZ H p v b a) (hb:Bytes b) (hl:b.length<2^30):XJ 97 [.ref p 0] (fun q w=>w=.agg (iC q)) H p v b (gm 7 b a):=by
 have ik:=hr.2.2.2
 have fail:∀{i l z} {H1 H2:aA},gm i b a=.some (l,z)->i<7->rd b z=none->fF H H1 p->fF H1 H2 p->LJ (fun q w=>w=.agg (iC q)) H p v b (gm 7 b a) (.pA gH) H2:=fun {i l z H1 H2} h1 hi h h4 k1=>by
  have :gm (i+1) b a=none:=by rw[HN,h1];simp only[h]
  rw[fu this (by omega)];exact⟨h4.trans k1,rfl⟩
 refine bL fit aNt (Ae rfl) ?_;unfold W97;dsimp only;refine aB fun K hK=>?_;simp only[↓zP,zG,seval];apply hK;clear hK K;refine aB fun K hK=>?_;refine aB fun K2 bO=>?_;simp only[↓zP,zG,seval];apply bO;clear bO K2;refine lE [] (fun i vs H1=>wT H H1 p v b a i) 3 (by decide) rfl (by decide) ?_ ?_ ?_ ?_
 . simp only[zB,seval]
 . exact⟨[],a,HO _ _,by rw[aA.aG,if_pos rfl];rfl,hr.alloc _,.alloc _ _ _,by simp only[aA.aR];omega⟩
 . rintro i f4 H1 hi hk x1 ⟨l,z,h1,h2,h3,h4,h5⟩;have u0:f4 0=.ref p 0:=by rw[hk 0 rfl];rfl
   have u2:f4 2=.ref H.next 0:=hk 2 rfl;have ht:=vU h3 hb hl;refine aS ?_;refine aB fun K hK=>?_;simp only[↓zP,zG,seval,x1];apply hK;clear hK K;simp only[↓zP,zG,seval,u0]
   cases h:rd b z with
   |none=>obtain⟨H2,hS,k1⟩:=ht.none h;refine eU (by simp only[Be,Ci,zB,seval]) hS ?_;exact⟨rfl,fail h1 (by omega) h h4 k1⟩
   |some q=>obtain⟨w,H2,hS,k1,k2,k3⟩:=ht.some h;cases k1;obtain⟨g2,gl,gn⟩:=wT.next ik h1 h2 h4 h5 h k2 k3 (by omega);refine cT (hS) ?_;simp only[↓zP,zG,seval,zI,u2,g2,gl,aQ,hi];exact gn
 rintro f2 H2 hk hI;have u0:f2 0=.ref p 0:=by rw[hk 0 rfl];rfl
 have u2:f2 2=.ref H.next 0:=hk 2 rfl;clear hk;apply hK;clear hK K;refine aB fun K hK=>?_;refine aB fun K2 bO=>?_;simp only[↓zP,zG,seval];apply bO;clear bO K2;refine lE [] (fun i vs H1=>wT H H1 p v b a (3+i)) 4 (by decide) rfl (by decide) ?_ ?_ ?_ ?_
 . simp only[zB,seval]
 . exact hI
 . rintro i f4 H1 hi hk x1 ⟨l,z,h1,h2,h3,h4,h5⟩;have v0:f4 0=.ref p 0:=(hk 0 rfl).trans u0;have v2:f4 2=.ref H.next 0:=(hk 2 rfl).trans u2;have ht:=vU h3 hb hl;refine aS ?_;refine aB fun K hK=>?_;simp only[↓zP,zG,seval,x1];apply hK;clear hK K;simp only[↓zP,zG,seval,v0]
   cases h:rd b z with
   |none=>obtain⟨H2,hS,k1⟩:=ht.none h;refine eU (by simp only[Be,Ci,zB,seval]) hS ?_;exact⟨rfl,fail h1 (by omega) h h4 k1⟩
   |some q=>obtain⟨w,H2,hS,k1,k2,k3⟩:=ht.some h;cases k1;obtain⟨g2,gl,gn⟩:=wT.next ik h1 h2 h4 h5 h k2 k3 (by omega);refine cT (hS) ?_;simp only[↓zP,zG,seval,zI,v2,g2,gl,aQ,hi];exact gn
 rintro f5 H5 hk ⟨l,z,h1,h2,h3,h4,h5⟩;have v2:f5 2=.ref H.next 0:=(hk 2 rfl).trans u2;clear hk;have hz:zC l (7 -(3+4))=iC l:=by simp[zC]
 rw[hz] at h2;have qc:(iC l).length=7:=by rw[tR];exact NY h1
 apply hK;clear hK K;simp only[↓zP,zG,seval,zI,v2,h2,oL qc];refine⟨rfl,_,by simp only[↓zP,zR,seval,v2,oL qc];rfl,?_⟩;rw[h1];exact⟨⟨h4.1,fun j j1 j2=>by rw[aA.aI,if_neg (by omega)];exact h4.2 j j1 j2⟩,⟨_,rfl,rfl⟩,h3.other (by omega) _⟩
theorem xJ:∀(n:Nat) (b:List Nat) (a:Nat),rH b (n+1) a=(match rH b n a with
 |.some (l,z)=>match gm 7 b z with
  |.some (x,z')=>.some (l++[x],z')
  |.none=>.none
 |.none=>.none)
 |0,b,a=>by simp only[rH];cases gm 7 b a<;>rfl
 |n+1,b,a=>by
  rw[rH,rH]
  cases h:gm 7 b a with
  |none=>rfl
  |some q=>
   obtain⟨x,z⟩:=q;simp only;rw[xJ n b z]
   cases h2:rH b n z with
   |none=>rfl
   |some q2=>obtain⟨l,z2⟩:=q2;simp only;cases h3:gm 7 b z2<;>rfl
theorem WH {n k:Nat} {b:List Nat} {a:Nat} (h:rH b n a=none) (hk:n<=k):rH b k a=none:=by
 induction k with
 |zero=>obtain rfl:n=0:=by omega
        exact h
 |succ k ih=>
  rcases Dt k n with h1|h1
  . obtain rfl:n=k+1:=by omega
    exact h
  rw[xJ,ih h1]
theorem QW:∀{n:Nat} {b:List Nat} {a:Nat} {l:List (List Int)} {z:Nat},rH b n a=.some (l,z)->l.length=n
 |0,b,a,l,z,h=>by simp only[rH,Ab,Ad] at h;obtain⟨rfl,rfl⟩:=h;rfl
 |n+1,b,a,l,z,h=>by
  rw[rH] at h;split at h
  . split at h
    . rename_i h1 _ _ h2;cases h;simp[QW h2]
    cases h
  cases h
def NG (H0 H:aA) (sz:Nat) (v:AV) (els:List (List AV)):Prop:=Own H sz v els/\∀k,nD v=.some k->H0.next<=k
theorem NG.nil (H0 H:aA) (sz:Nat):NG H0 H sz .aF []:=⟨.nil _ _,fun k h=>by cases h⟩
theorem NG.append {H0 H:aA} {sz bytes:Nat} {v:AV} {els:List (List AV)} {e:List AV} {p:Nat} (h:NG H0 H sz v els) (hb:(els.length+1)*bytes<=2^40) (hs:fF H0 H p):
 ∃v' H',cV H sz bytes false v [e]=.some (v',H')/\NG H0 H' sz v' (els++[e])/\fF H0 H' p/\(∀j,j<H0.next->H'.get j=H.get j):=by
 obtain⟨v',H',h1,h2,h3⟩:=h.1.append (bytes:=bytes) (ys:=[e]) (by simpa using hb);have hk:∀j,j<H0.next->H'.get j=H.get j:=fun j hj=>h3.get j (fun ht=>by have :=h.2 j ht;omega) (Aw hj hs.1);refine⟨v',H',h1,⟨h2,fun k ht=>?_⟩,⟨By hs.1 h3.next,fun j j1 j2=>(hk j j1).trans (hs.2 j j1 j2)⟩,hk⟩;have hn:=hs.1
 rcases h.1 with ⟨rfl,rfl⟩|⟨k',rfl,_,SD⟩
 . simp only[cV,List.isEmpty_cons,Ay,Bu,iK] at h1;split at h1
   . cases h1;simp only[nD,Ab] at ht;omega
   cases h1
 simp only[cV,List.isEmpty_cons,Ay,Bu,SD] at h1;split at h1
 . cases h1;simp only[nD,Ab] at ht;omega
 cases h1
def Ks (l:List (List Int)) (w:AV):Prop:=(w=.aF/\l=[])\/∃k,w=.bH (k+2) 7 (dQ l)
theorem CT (l:List (List Int)) (x:List Int):dQ (l++[x])=dQ l++[iC x]:=by simp[dQ]
theorem Zs {H:aA} {w:AV} {l:List (List Int)} (h:Own H 7 w (dQ l)):Ks l w:=by
 rcases h with ⟨rfl,h⟩|⟨k,rfl,_⟩
 . exact .inl ⟨rfl,by simpa [dQ] using h⟩
 exact .inr ⟨_,rfl⟩
theorem aCl {b:List Nat} {a n z:Nat} (ha:a<=b.length) (h:ZH 7 b a=.some (n,z)):z<=b.length/\n<=b.length:=by
 unfold ZH at h;rw[JY] at h
 cases hr:rd b a with
 |none=>rw[hr] at h;cases h
 |some q=>
  obtain⟨x,z'⟩:=q;rw[hr] at h;simp only at h;split at h
  . cases h
  rename_i hc;rw[not_or] at hc;simp only[Ab,Ad] at h;obtain⟨rfl,rfl⟩:=h;obtain⟨h1,h2,h3⟩:=ZK ha hr;omega
theorem Ke {H:aA} {p:Nat} {v:AV} {b:List Nat} {a:Nat} (hr:xZ H p v b a) (hb:Bytes b) (hl:b.length<2^30):XJ 57 [.ref p 0] Ks H p v b (jA b a):=by
 have ht:=jt hr hb hl;refine bL fit aMs (Ae rfl) ?_;unfold W57;dsimp only;refine aB fun K hK=>?_;simp only[↓zP,zG,seval];apply hK;clear hK K;refine aB fun K hK=>?_;simp only[↓zP,zG,seval];apply hK;clear hK K;refine aB fun K hK=>?_;simp only[↓zP,zG,seval,zI]
 cases h:ZH 7 b a with
 |none=>
  obtain⟨H1,hS,h1⟩:=ht.none (by rw[h];rfl);refine eU (by simp only[Be,Ci,zB,seval]) hS ?_;have :jA b a=none:=by simp only[jA,h]
  rw[this];exact⟨rfl,h1,rfl⟩
 |some q=>
  obtain⟨n,z0⟩:=q;obtain⟨w,H1,hS,h1,h2,h3⟩:=ht.some (by rw[h];rfl);cases h1;obtain⟨iy,hn⟩:=aCl hr.2.2.1 h;have hR:jA b a=rH b n z0:=by simp only[jA,h]
  refine cT (hS) ?_;simp only[↓zP,zG,seval];refine bV [3] (fun i vs H2=>∃l z,rH b i z0=.some (l,z)/\xZ H2 p v b z/\fF H H2 p/\∃w,vs=[w]/\NG H H2 7 w (dQ l)) n (by omega) (by decide) ?_ ?_ ?_ ?_ ?_
  . simp only[zB,seval]
  . simp only[zB,seval]
  . exact⟨[],z0,rfl,h2,h3,.aF,by simp only[sm,zB,seval],.nil _ _ _⟩
  . rintro i f4 H2 hi hk x1 ⟨l,z,k1,k2,k3,y,k4,k5⟩;have f3:f4 3=y:=by simpa only[sm,Am,Bs] using k4
    have u0:f4 0=.ref p 0:=(by rw[hk 0 rfl];rfl);have Tu:=QW k1;have hp:=lg k2 hb hl;refine aS ?_;simp only[↓zP,zG,seval,zI,u0,f3]
    cases hg:gm 7 b z with
    |none=>obtain⟨H3,hS,c1⟩:=hp.none hg;refine eU (by simp only[Be,Ci,zB,seval]) hS ?_;have :rH b (i+1) z0=none:=(by rw[xJ,k1];simp only[hg]);rw[hR,WH (k:=n) this (by omega)];exact⟨rfl,k3.trans c1,rfl⟩
    |some q=>
     obtain⟨x,z'⟩:=q;obtain⟨w,H3,hS,c1,c2,c3⟩:=hp.some hg;have c1':w=.agg (iC x):=c1;subst c1'
     have k5':NG H H3 7 y (dQ l):=⟨by
      rcases k5.1 with e|⟨k,e,e1,e2⟩
      . exact .inl e
      refine .inr ⟨k,e,Aw e1 c3.1,(c3.2 k e1 fun hkp=>?_).trans e2⟩;have :=k5.2 k (by rw[e];rfl);have :=hr.2.2.2
      omega,k5.2⟩
     obtain⟨y',H4,a1,a2,a3,a4⟩:=k5'.append (bytes:=56) (e:=iC x) (by rw[eL,Tu];omega) (k3.trans c3);have qc:(iC x).length=7:=(by rw[tR];exact NY hg);refine cT (hS) ?_;simp only[↓zP,zG,seval,zI,bJ,qc,a1];exact⟨l++[x],z',by rw[xJ,k1];simp only[hg],⟨(a4 p hr.2.2.2).trans c2.1,c2.2.1,c2.2.2.1,Aw hr.2.2.2 a3.1⟩,a3,y',rfl,by rw[CT];exact a2⟩
  rintro f4 H2 hk ⟨l,z,k1,k2,k3,y,k4,k5⟩;have f3:f4 3=y:=by simpa only[sm,Am,Bs] using k4
  apply hK;clear hK K;simp only[↓zP,zG,seval,f3];refine Rx ?_;rw[hR,k1];exact⟨k3,⟨_,rfl,Zs k5.1⟩,k2⟩
theorem HF.len {l:List Int} {w:AV} (h:HF l w) (H:aA):cD (fun _=>w) H (.GU (.tmp 0))=some (.int .i64 l.length,H):=by
 rcases h with ⟨rfl,rfl⟩|⟨tag,rfl⟩
 . rfl
 simp only[cD,bQ]
theorem HF.bH {l:List Int} {w:AV} (h:HF l w) {i:Nat} (hi:i<l.length):∃tag,w=.bH tag 1 (bU l):=by
 rcases h with ⟨_,rfl⟩|h
 . exact absurd hi (Bh _)
 exact h
theorem SK {l:List Int} {i:Nat} (hi:i<l.length):(bU l).getD i []=[.int .i64 l[i]]:=by simp[bU,hi]
theorem zq (l:List Bool) (x:Bool):bE (l++[x])=bE l++[[.bool x]]:=by simp[bE]
theorem Wd {α:Type} {l:List α} {i:Nat} (hi:i<l.length):l.take (i+1)=l.take i++[l[i]]:=by rw[Bv,Ac hi];rfl
def GZ (l:List Bool) (w:AV):Prop:=(w=.aF/\l=[])\/∃k,w=.bH (k+2) 1 (bE l)
theorem Zp {H:aA} {w:AV} {l:List Bool} (h:Own H 1 w (bE l)):GZ l w:=by
 rcases h with ⟨rfl,h⟩|⟨k,rfl,_⟩
 . exact .inl ⟨rfl,by simpa [bE] using h⟩
 exact .inr ⟨_,rfl⟩
theorem Ny {b:List Nat} {a z:Nat} {l:List Int} (h:WE b a=some (l,z)) (ha:a<=b.length) (hb:Bytes b) (hl:b.length<2^30):l.length<2^30:=(IH.take b a l z hb hl ha h).2.2.2.1
theorem mC {H:aA} {p:Nat} {v:AV} {b:List Nat} {a:Nat} (hr:xZ H p v b a) (hb:Bytes b) (hl:b.length<2^30):XJ 59 [.ref p 0] GZ H p v b (CQ b a):=by
 have ht:=oB hr hb hl;refine bL fit aMu (Ae rfl) ?_;unfold W59;dsimp only;refine aB fun K hK=>?_;simp only[↓zP,zG,seval];apply hK;clear hK K;refine aB fun K hK=>?_;simp only[↓zP,zG,seval];apply hK;clear hK K;refine aB fun K hK=>?_;simp only[↓zP,zG,seval,zI]
 cases h:WE b a with
 |none=>
  obtain⟨H1,hS,h1⟩:=ht.none h;refine eU (by simp only[Be,Ci,zB,seval]) hS ?_;have :CQ b a=none:=by simp only[CQ,h]
  rw[this];exact⟨rfl,h1,rfl⟩
 |some q=>
  obtain⟨l,z0⟩:=q;obtain⟨w,H1,hS,h1,h2,h3⟩:=ht.some h;have lv:=h1.len H1;simp only[cD] at lv;refine cT (hS) ?_;simp only[↓zP,zG,seval,lv];have hlen:l.length<2^30:=Ny h hr.2.2.1 hb hl
  have hR:CQ b a=if l.all (fun x=>x==0||x==1)=true then some (l.map (· ==1),z0) else none:=by simp only[CQ,h]
  refine bV [3] (fun i vs H2=>(l.take i).all (fun x=>x==0||x==1)=true/\xZ H2 p v b z0/\fF H H2 p/\∃w,vs=[w]/\NG H H2 1 w (bE ((l.take i).map (· ==1)))) l.length (by omega) (by decide) ?_ ?_ ?_ ?_ ?_
  . simp only[zB,seval]
  . simp only[zB,seval]
  . exact⟨rfl,h2,h3,.aF,by simp only[sm,zB,seval],.nil _ _ _⟩
  . rintro i f4 H2 hi hk x1 ⟨k1,k2,k3,y,k4,k5⟩;have f3:f4 3=y:=by simpa only[sm,Am,Bs] using k4
    obtain⟨tag,rfl⟩:=h1.bH hi;have u7:f4 7=.bH tag 1 (bU l):=hk 7 rfl;have hg:=SK hi;have hts:=Wd hi;have Pe:=Ap hi;obtain⟨y',H4,a1,a2,a3,a4⟩:=k5.append (bytes:=1) (e:=[.bool (l[i]==1)]) (by rw[qZ,Ax,Cb];omega) k3
    have eP:(l[i]==0||l[i]==1)=true->(l.take (i+1)).all (fun x=>x==0||x==1)=true/\bE ((l.take (i+1)).map (· ==1))=bE ((l.take i).map (· ==1))++[[.bool (l[i]==1)]]:=fun hx=>by rw[hts,List.all_append,k1,Dx,List.map_singleton,zq];exact⟨by simpa using hx,rfl⟩
    have fx:(l[i]==0||l[i]==1)=false->l.all (fun x=>x==0||x==1)=false:=fun hx=>by rw[List.all_eq_false];exact⟨_,Pe,by rw[hx];decide⟩
    generalize l[i]=x at *;refine aS ?_
    rcases Ip (x=0) with iw|iw
    . subst iw;obtain⟨s1,s2⟩:=eP rfl;have e1:((0:Int) != 0)=false:=rfl;have e2:((0:Int)==1)=false:=rfl;rw[e2] at a1 a2 s2;simp only[↓zP,zG,seval,zI,x1,u7,aQ,bQ,hi,hg,e1,e2,f3,bJ,a1];refine⟨s1,⟨(a4 p hr.2.2.2).trans k2.1,k2.2.1,k2.2.2.1,Aw hr.2.2.2 a3.1⟩,a3,y',rfl,by rw[s2];exact a2⟩
    rcases Ip (x=1) with OX|OX
    . subst OX;obtain⟨s1,s2⟩:=eP rfl;have e1:((1:Int) != 0)=true:=rfl;have e2:((1:Int)==1)=true:=rfl;have e3:((1:Int) != 1)=false:=rfl;rw[e2] at a1 a2 s2;simp only[↓zP,zG,seval,zI,x1,u7,aQ,bQ,hi,hg,e1,e2,e3,f3,bJ,a1];refine⟨s1,⟨(a4 p hr.2.2.2).trans k2.1,k2.2.1,k2.2.2.1,Aw hr.2.2.2 a3.1⟩,a3,y',rfl,by rw[s2];exact a2⟩
    have e1:(x != 0)=true:=(by rw[El];exact iw);have e3:(x != 1)=true:=(by rw[El];exact OX);have SC:=fx (by rw[Bool.or_eq_false_iff];exact⟨Gg.2 iw,Gg.2 OX⟩);simp only[↓zP,zG,seval,zI,x1,u7,aQ,bQ,hi,hg,e1,e3];refine jJ (t:=133) (v:=.agg []) (by simp only[↓zP,seval]) ?_;rw[hR,SC];exact⟨rfl,k3,rfl⟩
  rintro f4 H2 hk ⟨k1,k2,k3,y,k4,k5⟩;have f3:f4 3=y:=by simpa only[sm,Am,Bs] using k4
  rw[Bm] at k1 k5;apply hK;clear hK K;simp only[↓zP,zG,seval,f3];refine Rx ?_;rw[hR,if_pos k1];exact⟨k3,⟨_,rfl,Zp k5.1⟩,k2⟩
theorem NL:∀l:List Int,(AL l).length=l.length / 3
 |[]=>rfl
 |[_]=>by simp[AL]
 |[_,_]=>by simp[AL]
 |x::y::z::r=>by simp only[AL,Ak,NL r];omega
theorem PA:∀(k:Nat) (l:List Int),3*k+3<=l.length->∃x y z,(AL l).take (k+1)=(AL l).take k++[[x,y,z]]/\(l.drop (3*k)).take 3=[x,y,z]
 |_,[],h=>by simp at h
 |_,[_],h=>by simp at h
 |_,[_,_],h=>by simp at h
 |0,x::y::z::r,_=>⟨x,y,z,rfl,rfl⟩
 |k+1,x::y::z::r,h=>by
  obtain⟨x',y',z',h1,h2⟩:=PA k r (by simp at h;omega);refine⟨x',y',z',?_,?_⟩
  . simp only[AL,Cw,Ev];rw[<-h1]
  rw[show 3*(k+1)=3*k+3 by omega];exact h2
def FA (l:List (List Int)) (w:AV):Prop:=(w=.aF/\l=[])\/∃k,w=.bH (k+2) 3 (dQ l)
theorem Zt {H:aA} {w:AV} {l:List (List Int)} (h:Own H 3 w (dQ l)):FA l w:=by
 rcases h with ⟨rfl,h⟩|⟨k,rfl,_⟩
 . exact .inl ⟨rfl,by simpa [dQ] using h⟩
 exact .inr ⟨_,rfl⟩
theorem l7 {l:List Int} {tag k:Nat} {x y z:Int} (h:3*k+3<=l.length) (ht:(l.drop (3*k)).take 3=[x,y,z]):
 ∃t,lN 1 (.bH tag 1 (bU l)) (some (3*k)) (some (3*k+3)) none=some (.bH t 1 [[.int .i64 x],[.int .i64 y],[.int .i64 z]]):=by
 have hl:(bU l).length=l.length:=bQ _
 have hk:((bU l).drop (3*k)).take 3=[[.int .i64 x],[.int .i64 y],[.int .i64 z]]:=by unfold bU at *;rw[<-List.map_drop,<-Jf,ht];rfl
 simp only[lN,Bb];rw[hl,if_pos ⟨trivial,by omega,by omega⟩];split
 . rename_i h3;have :((bU l).drop (3*k)).length=3:=by rw[Cv,hl];omega
   rw[Bl (by omega)] at hk;exact⟨tag,by rw[hk]⟩
 rw[show 3*k+3 -3*k=3 by omega,hk];exact⟨0,rfl⟩
theorem Ua {H:aA} {l:List Int} {w:AV} (hw:HF l w) (hlen:l.length<2^30):∃o H',((∀j,j<H.next->H'.get j=H.get j)/\H.next<=H'.next/\if l.length%3=0 then ∃y,o=.ret y/\FA (AL l) y else o=.pA gH)/\Sound Tryz.prog gv 60 [w] H o H':=by
 have lv:=hw.len H;simp only[cD] at lv;have hm:((l.length:Int).tmod 3)=((l.length%3:Nat):Int):=by rw[Int.tmod_eq_emod_of_nonneg (by omega)];omega
 refine bL fit aMw (Ae rfl) ?_;unfold W60;dsimp only;refine aB fun K hK=>?_;simp only[↓zP,zG,seval];apply hK;clear hK K;refine aB fun K hK=>?_;refine aB fun K2 bO=>?_;simp only[↓zP,zG,seval,zI,lv,hm];apply bO;clear bO K2;by_cases h3:l.length%3=0
 . have e1:(((l.length%3:Nat):Int) != 0)=false:=by rw[h3];rfl
   simp only[↓zP,zG,seval,e1];apply hK;clear hK K;refine aB fun K hK=>?_;simp only[↓zP,zG,seval];apply hK;clear hK K;refine aB fun K hK=>?_;refine aB fun K2 bO=>?_;simp only[↓zP,zG,seval];apply bO;clear bO K2;refine TP [3] (fun k vs H2=>fF H H2 H.next/\∃y,vs=[y]/\NG H H2 3 y (dQ ((AL l).take k))) (fun k=>((3*k:Nat):Int)) (l.length / 3) (by decide) ?_ ?_ ?_ ?_ ?_ ?_
   . intro k hk;simp only[jX,if_true];rw[wrap_i64 (by omega) (by omega)];simp only[Ab,AV.int.injEq,Ii];omega
   . simp only[zB,seval]
   . exact⟨.refl _ _,.aF,by simp only[sm,zB,seval],.nil _ _ _⟩
   . rintro k f2 H2 gw kP e2 _;have u0:f2 0=w:=(by rw[kP 0 rfl];rfl);have lv2:=hw.len H2;simp only[cD] at lv2;simp only[↓zP,zG,seval,e2,u0,lv2];exact tB (by omega)
   . rintro k f2 H2 gw kP e2 ⟨k3,y,k4,k5⟩;have f3:f2 3=y:=(by simpa only[sm,Am,Bs] using k4);obtain⟨tag,rfl⟩:=hw.bH (i:=3*k) (by omega);have u0:f2 0=.bH tag 1 (bU l):=(by rw[kP 0 rfl];rfl);obtain⟨x,y1,z,t1,t2⟩:=PA k l (by omega);obtain⟨t,FX⟩:=l7 (tag:=tag) (by omega) t2;have uS:IntKind.i64.wrap (((3*k:Nat):Int)+3)=((3*k+3:Nat):Int):=(by rw[wrap_i64 (by omega) (by omega)];omega);obtain⟨y',H4,a1,a2,a3,a4⟩:=k5.append (bytes:=24) (e:=[.int .i64 x,.int .i64 y1,.int .i64 z]) (by rw[eL,Cb,NL];omega) k3;have pI:[[AV.int .i64 x],[AV.int .i64 y1],[AV.int .i64 z]].flatten=[AV.int .i64 x,AV.int .i64 y1,AV.int .i64 z]:=rfl;have hl3:[AV.int .i64 x,AV.int .i64 y1,AV.int .i64 z].length=3:=rfl;have ht3:[AV.int .i64 x,AV.int .i64 y1,AV.int .i64 z].take 3=[AV.int .i64 x,AV.int .i64 y1,AV.int .i64 z]:=rfl;refine aS ?_;simp only[↓zP,zG,seval,zI,e2,u0,cP,aQ,uS,FX,Ca,Br,f3,pI,hl3,ht3,show ∀(h:aA) (x:List AV),bJ h 3 (.bH 1 3 [x])=some [x] from fun _ _=>rfl,a1];exact⟨a3,y',rfl,by rw[t1,CT];exact a2⟩
   rintro f4 H2 hk ⟨k3,y,k4,k5⟩;have f3:f4 3=y:=(by simpa only[sm,Am,Bs] using k4);rw[Bl (by rw[NL];omega)] at k5;apply hK;clear hK K;simp only[↓zP,zG,seval,f3];refine Rx ?_;refine⟨fun j hj=>k3.2 j hj (by omega),k3.1,?_⟩;rw[if_pos h3];exact⟨_,rfl,Zt k5.1⟩
 have e1:(((l.length%3:Nat):Int) != 0)=true:=by rw[El];omega
 simp only[↓zP,zG,seval,zI,e1];refine jJ (t:=133) (v:=.agg []) (by simp only[↓zP,seval]) ?_;refine⟨rfl,fun _ _=>rfl,Ai _,?_⟩;rw[if_neg h3];rfl
def aDa (fn:Go.Func):Code:=fn.body.getD .skip
def RCw:{x // RT Tryz.prog gv false (aDa Tryz.f93)=some x}:=by
 apply Subtype.mk
 conv=>lhs;cbv
theorem aIr:XG Tryz.prog gv false 93 10 RCw.1.1 RCw.1.2.1 RCw.1.2.2:=⟨Tryz.f93,_,Tryz.func93,rfl,by kernel_rfl,RCw.2,by kernel_rfl,by kernel_rfl⟩
theorem RY (args:List AV) (ha:args.length=1) (H:aA):uZ Tryz.prog gv 93 args none H H:=by refine AT fit aIr (by omega) ?_;unfold RCw;dsimp only;rw[oG];show FC Tryz.prog gv 10 _ (iA (dW args) 4 .lZ) [] H _;have n1:tS .Ww .lZ=some true:=rfl;refine aS ?_;simp only[↓zP,zG,seval,zI,n1,Hu,Cx,Eg,Ih]
theorem RZ {H:aA} {c:Nat} {x:AV} (g0:H.get c=some (.cells [x] false)) (hc:c<H.next):
 ∃H',uZ Tryz.prog gv 93 [.ref c 0] (some gH) H H'/\H'.get c=some (.cells [.int .i64 11] false)/\H.next<=H'.next/\∀j,j<H.next->j≠c->H'.get j=H.get j:=by
 refine⟨((H.alloc (.cells [] false)).set H.next (.cells [] false)).set c (.cells [.int .i64 11] false),AT fit aIr (by simp) ?_,by rw[aA.aI,if_pos rfl],by show _<=H.next+1;omega,fun j h1 h2=>by rw[aA.aI,if_neg h2,aA.aI,if_neg (by omega),aA.aG,if_neg (by omega)]⟩;unfold RCw gH;dsimp only;rw[oG];show FC Tryz.prog gv 10 _ (iA (dW [.ref c 0]) 4 (.iface 133 (.agg []))) [] H _;have n2:tS .Ww (.iface 133 (.agg []))=some false:=rfl;have g1:(H.alloc (.cells [] false)).get c=some (.cells [x] false):=by rw[aA.aG,if_neg (by omega)];exact g0
 have g2:(H.alloc (.cells [] false)).get H.next=some (.cells [] false):=by rw[aA.aG,if_pos rfl]
 have n1:tS .Ww .lZ=some true:=rfl;have cF:¬c=H.next:=by omega
 refine aS ?_;simp only[↓zP,zG,seval,zI,n1,n2,g0,cF,Hu,Cx,Eg,Gj]
theorem IL {P:Program} {g:aT} {n:Nat} {r:List aN} {f:cQ} {ds:List eX} {H:aA} {Q:FQ} {dst:Option Nat} {c:Arg} {fid:FuncId} {fs cs:List AV} {az:List Arg} {args:List AV} {v:AV} {H':aA}
 (hc:jD g f c=.func (.func fid) fs cs) (ha:fs++az.map (jD g f)++cs=args) (hS:Sound P g fid args H (.pA v) H')
 (h:Q (.panic v) f ds H'):bM P g n (⟨dst,.call c az,none⟩::r) f ds H Q:=by
 unfold bM;simp only[eJ,if_true];exact⟨.pA v,H',.inl ⟨(fid,fs,cs),by rw[hc];rfl,by rw[ha];exact hS⟩,h⟩
def Xj:Out->Int|.pA _=>11|_=>0
theorem Lp {H H1:aA} {fid:Nat} {cs:List AV} {out:Out} (hS:Sound Tryz.prog gv fid cs (H.alloc (.cells [.int .i64 0] false)) out H1) (oV:(∃v,out=.ret v)\/out=.pA gH) (hk:H1.get H.next=some (.cells [.int .i64 0] false)) (hn:H.next<H1.next):
 ∃o H',((o=.ret (.int .i64 (Xj out)))/\H1.next<=H'.next/\∀j,j<H1.next->j≠H.next->H'.get j=H1.get j)/\Sound Tryz.prog gv 54 [.func (.func fid) [] cs] H o H':=by
 refine tD fit aMp (Ae rfl) ?_;unfold W54;dsimp only;refine aB fun K hK=>?_;simp only[↓zP,zG,seval];apply hK;clear hK K;refine aB fun K hK=>?_;simp only[↓zP,zG,seval,zI];refine RM (fid:=93) (fs:=[]) (cs:=[.ref H.next 0]) (by simp only[zB,seval]) (by simp only[Ci,Cf,Cg];rfl) ?_;simp only[↓zP,seval];apply hK;clear hK K;refine aB fun K hK=>?_;simp only[↓zP,zG,seval,zI]
 rcases oV with ⟨y,rfl⟩|rfl
 . refine lF (by decide) (fs:=[]) (cs:=cs) (by simp only[zB,seval]) (by simp only[Ci,Cg]) hS ?_;simp only[↓zP,seval];apply hK;clear hK K;simp only[↓zP,zG,seval,zI,hk];refine⟨_,RY _ rfl _,?_⟩;refine⟨[.int .i64 0],?_,rfl,Ai _,fun j j1 j2=>by rw[aA.aI,if_neg j2]⟩;simp only[mZ,EU,↓zP,zG,seval,zI]
 refine IL (fs:=[]) (cs:=cs) (by simp only[zB,seval]) (by simp only[Ci,Cg]) hS ?_;obtain⟨H2,d1,d2,d3,d4⟩:=RZ hk hn;refine⟨_,d1,?_⟩;refine⟨[.int .i64 11],?_,rfl,d3,d4⟩;simp only[↓zP,zR,seval,d2]
def pZ (H H':aA) (p c:Nat):Prop:=H.next<=H'.next/\∀j,j<H.next->j≠p->j≠c->H'.get j=H.get j
theorem fF.qV {H H':aA} {p c:Nat} (h:fF H H' p):pZ H H' p c:=⟨h.1,fun j h1 h2 _=>h.2 j h1 h2⟩
theorem pZ.trans {H H1 H2:aA} {p c:Nat} (h:pZ H H1 p c) (k:pZ H1 H2 p c):pZ H H2 p c:=⟨By h.1 k.1,fun j h1 h2 h3=>(k.2 j (Aw h1 h.1) h2 h3).trans (h.2 j h1 h2 h3)⟩
theorem pZ.set (H:aA) (p c:Nat) (o:dU):pZ H (H.set c o) p c:=⟨Ai _,fun j _ _ h=>by rw[aA.aI,if_neg h]⟩
theorem pZ.eqv {H H1:aA} (h:∀id,H1.get id=H.get id) (hn:H1.next=H.next) (p c:Nat):pZ H H1 p c:=⟨by omega,fun j _ _ _=>h j⟩
theorem xZ.eqv {H H1:aA} {p:Nat} {v:AV} {b:List Nat} {a:Nat} (hr:xZ H p v b a) (h:∀id,H1.get id=H.get id) (hn:H1.next=H.next):xZ H1 p v b a:=⟨(h p).trans hr.1,hr.2.1,hr.2.2.1,by rw[hn];exact hr.2.2.2⟩
theorem ll (b:List Nat):Kf b=match rd b 0 with
 |.some (k,z1)=>match rd b z1 with
  |.some (n,z2)=>match jA b z2 with
   |.some (ps,z)=>.some (([k,n],ps),z)
   |.none=>.none
  |.none=>.none
 |.none=>.none:=by
 unfold Kf uC;rw[BN]
 cases h1:rd b 0 with
 |none=>rfl
 |some q=>
  obtain⟨k,z1⟩:=q;simp only;rw[JY]
  cases h2:rd b z1 with
  |none=>rfl
  |some q2=>obtain⟨n,z2⟩:=q2;simp only;cases jA b z2<;>rfl
theorem Ks.one {l:List (List Int)} {w:AV} (h:Ks l w):w.cells=[w]/\w.oK=false:=by rcases h with ⟨rfl,_⟩|⟨k,rfl⟩<;>exact⟨rfl,rfl⟩
theorem fa {H:aA} {r c p:Nat} {v:AV} {b:List Nat} (hr:xZ H p v b 0) (hb:Bytes b) (hl:b.length<2^30) (gr:H.get r=some (.cells [.ref p 0] false)) (gc:H.get c=some (.cells [.int .i64 0,.int .i64 0,.aF] false))
 (n1:r≠p) (n2:c≠p) (n3:r≠c) (l1:r<H.next) (l2:c<H.next):
 ∃o H',(pZ H H' p c/\match Kf b with
  |some ((l,ps),z)=>o=.ret (iW [])/\∃k n pv,l=[k,n]/\H'.get c=some (.cells [.int .i64 k,.int .i64 n,pv] false)/\Ks ps pv/\xZ H' p v b z
  |none=>o=.pA gH)/\Sound Tryz.prog gv 55 [.ref r 0,.ref c 0] H o H':=by
 refine bL fit aMq (Ae rfl) ?_;unfold W55;dsimp only;rw[ll];refine aB fun K hK=>?_;have t1:=vU hr hb hl
 cases h1:rd b 0 with
 |none=>refine kQ 1 0 (by rfl) (by decide) (by decide) (by decide) (by decide) (by decide) (by decide) (by rfl) fun H1 qH rO=>?_;obtain⟨H2,hS,s2⟩:=(vU (hr.eqv rO qH) hb hl).none h1;simp(decide:=true) only[sO,if_true,Bu];simp only[List.filter,show Nat.blt 1 1=false from rfl,show Nat.blt 8 1=false from rfl,show Nat.blt 9 1=false from rfl,show Nat.blt 12 1=false from rfl,↓zP,zG,seval,zD,reduceCtorEq,zI,rO,gr,kR];refine⟨(56,[],[]),gH,H2,rfl,hS,fun _=>⟨rfl,?_,rfl⟩⟩;exact(pZ.eqv rO qH p c).trans s2.qV
 |some q=>
  obtain⟨k,z1⟩:=q;simp only
  cases h2:rd b z1 with
  |none=>
   refine kQ 3 0 (by rfl) (by decide) (by decide) (by decide) (by decide) (by decide) (by decide) (by rfl) fun H1 qH rO=>?_;obtain⟨w,H2,hS,e1,r2,s2⟩:=(vU (hr.eqv rO qH) hb hl).some h1;cases e1;obtain⟨H3,oo,s3⟩:=(vU r2 hb hl).none h2;have gr2:H2.get r=some (.cells [.ref p 0] false):=(s2.2 r (by omega) n1).trans ((rO r).trans gr);simp(decide:=true) only[sO,if_true,Bu];simp only[List.filter,show Nat.blt 1 3=true from rfl,show Nat.blt 8 3=false from rfl,show Nat.blt 9 3=false from rfl,show Nat.blt 12 3=false from rfl,↓zP,zG,seval,zD,reduceCtorEq,zI,rO,gr];refine cL (hS:=hS) (by decide) (by simp only[sm,zB,seval]) s2.1 ?_ ?_
   . intro y hy _;simp only[Ah,Al,Bx] at hy
     rcases hy with rfl|rfl<;>exact((rO r).trans gr).trans gr2.symm
   simp only[↓zP,zG,seval,zD,reduceCtorEq,zI,gr2,kR];refine⟨(rO r).trans gr,(56,[],[]),gH,H3,rfl,oo,fun _=>⟨rfl,?_,rfl⟩⟩;exact((pZ.eqv rO qH p c).trans s2.qV).trans s3.qV
  |some q2=>
   obtain⟨n,z2⟩:=q2;simp only;obtain⟨w,H2,hS,e1,r2,s2⟩:=t1.some h1;cases e1;obtain⟨w,H3,oo,e1,r3,s3⟩:=(vU r2 hb hl).some h2;cases e1;have gr2:H2.get r=some (.cells [.ref p 0] false):=(s2.2 r l1 n1).trans gr;have gc2:H3.get c=some (.cells [.int .i64 0,.int .i64 0,.aF] false):=(s3.2 c (Aw l2 s2.1) n2).trans ((s2.2 c l2 n2).trans gc);refine bK (by decide) ?_;simp only[↓zP,zG,seval,zD,reduceCtorEq,zI,gr];refine cL (hS:=hS) (by decide) (by simp only[sm,zB,seval]) s2.1 ?_ ?_
   . intro y hy _;simp only[Ah,Al,Bx] at hy
     rcases hy with rfl|rfl<;>exact gr.trans gr2.symm
   have gr3:H3.get r=some (.cells [.ref p 0] false):=(s3.2 r (Aw l1 s2.1) n1).trans gr2;simp only[↓zP,zG,seval,zD,reduceCtorEq,zI,gr2];refine⟨gr,?_⟩;refine cL (hS:=oo) (by decide) (by simp only[sm,zB,seval]) s3.1 ?_ ?_
   . intro y hy _;simp only[Ah,Al,Bx] at hy
     rcases hy with rfl|rfl<;>exact gr2.trans gr3.symm
   simp only[↓zP,zG,seval,zD,reduceCtorEq,zI,gc2];apply hK;clear hK K;generalize Wo:(H3.set c (.cells [.int .i64 k,.int .i64 0,.aF] false)).set c (.cells [.int .i64 k,.int .i64 n,.aF] false)=H4;have gr4:H4.get r=some (.cells [.ref p 0] false):=(by rw[<-Wo,aA.aI,if_neg n3,aA.aI,if_neg n3];exact gr3);have gc4:H4.get c=some (.cells [.int .i64 k,.int .i64 n,.aF] false):=(by rw[<-Wo,aA.aI,if_pos rfl]);have r4:xZ H4 p v b z2:=(by rw[<-Wo];exact(r3.other n2 _).other n2 _);have s4:pZ H H4 p c:=(by rw[<-Wo];exact(((s2.qV).trans s3.qV).trans (.set _ _ _ _)).trans (.set _ _ _ _));clear Wo;have t4:=Ke r4 hb hl;simp only[↓zP,zG,seval,zI,gr4]
   cases h3:jA b z2 with
   |none=>obtain⟨H5,MM,s5⟩:=t4.none h3;refine eU (by simp only[Be,Ci,zB,seval]) MM ?_;refine⟨rfl,s4.trans s5.qV,?_⟩;simp only[h1,h2,h3]
   |some q3=>obtain⟨ps,z⟩:=q3;obtain⟨pv,H5,MM,e5,r5,s5⟩:=t4.some h3;have gc5:H5.get c=some (.cells [.int .i64 k,.int .i64 n,.aF] false):=(s5.2 c (Aw l2 s4.1) n2).trans gc4;refine cT (MM) ?_;obtain⟨o1,o2⟩:=Ks.one e5;have hdr:List.drop (2+1) [AV.int .i64 k,AV.int .i64 n,AV.aF]=[]:=rfl;simp only[↓zP,zG,seval,zI,gc5,o1,o2,hdr];refine⟨rfl,[],rfl,(s4.trans s5.qV).trans (.set _ _ _ _),?_⟩;simp only[h1,h2,h3];exact⟨trivial,k,n,pv,rfl,by rw[aA.aI,if_pos rfl],e5,r5.other n2 _⟩
def ua (b:List Nat) (o:Out) (_:aA):Prop:=match Kf b with
 |some ((l,ps),z)=>∃k n pv,l=[k,n]/\Ks ps pv/\o=.ret (.eZ [.agg (oC k n pv),.int .i64 z,.int .i64 0])
 |none=>o=.ret (.eZ [.agg (oC 0 0 .aF),.int .i64 0,.int .i64 11])
theorem z8 {v:AV} {b:List Nat} (hv:mG v 1 (aO b)) (hb:Bytes b) (hl:b.length<2^30):∃o H',ua b o H'/\Sound Tryz.prog gv 21 [v] ⟨0,.nil⟩ o H':=by
 refine bL fit aLw (Ae rfl) ?_;unfold W21;dsimp only
 have o1:v.cells=[v]/\v.oK=false:=by rcases hv with ⟨rfl,_⟩|rfl<;>exact⟨rfl,rfl⟩
 refine aB fun K hK=>?_;simp only[↓zP,zG,seval];apply hK;clear hK K;refine aB fun K hK=>?_;simp only[↓zP,zG,seval,zI,o1.1,o1.2];apply hK;clear hK K;refine aB fun K hK=>?_;simp only[↓zP,zG,seval,zI];apply hK;clear hK K;obtain⟨HA,ED⟩:∃HA:aA,HA=(((((aA.mk 0 .nil).alloc (.cells [.int .i64 0,.int .i64 0,.aF] false)).alloc (.cells [v,.int .i64 0] false)).alloc (.cells [.zX] false)).set 2 (.cells [.ref 1 0] false)).alloc (.cells [.int .i64 0,.int .i64 0,.aF] false):=⟨_,rfl⟩;have gn:HA.next=4:=by subst ED;rfl
 have g0:HA.get 0=some (.cells [.int .i64 0,.int .i64 0,.aF] false):=by subst ED;simp only[zI,seval]
 have g1:HA.get 1=some (.cells [v,.int .i64 0] false):=by subst ED;simp only[zI,seval]
 have g2:HA.get 2=some (.cells [.ref 1 0] false):=by subst ED;simp only[zI,seval]
 have g3:HA.get 3=some (.cells [.int .i64 0,.int .i64 0,.aF] false):=by subst ED;simp only[zI,seval]
 rw[<-ED];clear ED;have hB:∀j,j<4->(HA.alloc (.cells [.int .i64 0] false)).get j=HA.get j:=fun j hj=>by rw[aA.aG,if_neg (by omega)]
 have bn:(HA.alloc (.cells [.int .i64 0] false)).next=5:=by simp only[aA.aR];omega
 obtain⟨o,H1,⟨s1,oW⟩,hS⟩:=fa (H:=HA.alloc (.cells [.int .i64 0] false)) (r:=2) (c:=3) (p:=1) (v:=v) (b:=b) ⟨(hB 1 (by decide)).trans g1,hv,Cs _,by omega⟩ hb hl ((hB 2 (by decide)).trans g2) ((hB 3 (by decide)).trans g3) (by decide) (by decide) (by decide) (by omega) (by omega)
 have k4:H1.get HA.next=some (.cells [.int .i64 0] false):=by rw[s1.2 _ (by omega) (by omega) (by omega),aA.aG,if_pos rfl]
 have k0:H1.get 0=some (.cells [.int .i64 0,.int .i64 0,.aF] false):=(s1.2 0 (by omega) (by decide) (by decide)).trans ((hB 0 (by decide)).trans g0);have k2:H1.get 2=some (.cells [.ref 1 0] false):=(s1.2 2 (by omega) (by decide) (by decide)).trans ((hB 2 (by decide)).trans g2);have qH:HA.next<H1.next:=by have :=s1.1;omega
 have oV:(∃v,o=.ret v)\/o=.pA gH:=by
  cases h:Kf b with
  |none=>rw[h] at oW;exact .inr oW
  |some q=>rw[h] at oW;exact .inl ⟨_,oW.1⟩
 obtain⟨_,H2,⟨rfl,q1,q2⟩,YF⟩:=Lp hS oV k4 qH;have m0:H2.get 0=some (.cells [.int .i64 0,.int .i64 0,.aF] false):=(q2 0 (by omega) (by omega)).trans k0;have m2:H2.get 2=some (.cells [.ref 1 0] false):=(q2 2 (by omega) (by omega)).trans k2;unfold ua
 cases h:Kf b with
 |none=>rw[h] at oW;obtain rfl:o=.pA gH:=oW;have e0:Xj (.pA gH)=11:=rfl;rw[e0] at YF;refine aB fun K hK=>?_;simp only[↓zP,zG,seval,zI];refine cT (YF) ?_;simp only[↓zP,zG,seval];apply hK;clear hK K;have z1:((11:Int) != 0)=true:=rfl;refine aB fun K hK=>?_;refine aB fun K2 bO=>?_;simp only[↓zP,zG,seval];apply bO;clear bO K2;simp only[↓zP,zG,seval,zI,m0];refine Rx ?_;rfl
 |some q=>obtain⟨⟨l,ps⟩,z⟩:=q;rw[h] at oW;obtain⟨rfl,k,n,pv,rfl,c3,c4,c5⟩:=oW;have e0:Xj (.ret (iW []))=0:=rfl;rw[e0] at YF;have m3:H2.get 3=some (.cells [.int .i64 k,.int .i64 n,pv] false):=(q2 3 (by omega) (by omega)).trans c3;have m1:H2.get 1=some (.cells [v,.int .i64 z] false):=(q2 1 (by omega) (by omega)).trans c5.1;refine aB fun K hK=>?_;simp only[↓zP,zG,seval,zI];refine cT (YF) ?_;simp only[↓zP,zG,seval];apply hK;clear hK K;have z1:((0:Int) != 0)=false:=rfl;refine aB fun K hK=>?_;refine aB fun K2 bO=>?_;simp only[↓zP,zG,seval];apply bO;clear bO K2;simp only[↓zP,zG,seval];apply hK;clear hK K;refine aB fun K hK=>?_;refine bK (by decide) ?_;simp only[↓zP,zG,seval,zD,reduceCtorEq,zI,m0,m1,m2,m3];apply hK;clear hK K;simp only[↓zP,seval];refine Rx ?_;exact⟨k,n,pv,rfl,c4,rfl⟩
def WT (v:AV):AV:=match v with|.bH (_+2) sz els=>.bH 0 sz els|v=>v
theorem Ks.shut {l:List (List Int)} {w:AV} (h:Ks l w):mG (WT w) 7 (dQ l)/\∀H nw,hY H none nw w=some (WT w):=by
 rcases h with ⟨rfl,rfl⟩|⟨k,rfl⟩
 . exact⟨.inl ⟨rfl,rfl⟩,fun _ _=>rfl⟩
 refine⟨.inr rfl,fun H nw=>?_⟩;simp only[hY,jQ (dO l)];rfl
theorem PH {v:AV} {b:List Nat} (hv:mG v 1 (aO b)) (hb:Bytes b) (hl:b.length<2^30):match Kf b with
 |some ((l,ps),z)=>∃k n pv,l=[k,n]/\mG pv 7 (dQ ps)/\∀H,Sound Tryz.prog gv 21 [v] H (.ret (.eZ [.agg (oC k n pv),.int .i64 z,.int .i64 0])) H
 |none=>∀H,Sound Tryz.prog gv 21 [v] H (.ret (.eZ [.agg (oC 0 0 .aF),.int .i64 0,.int .i64 11])) H:=by
 obtain⟨o,H',hR,hS⟩:=z8 hv hb hl
 have hf:bN [v]=true:=by simp only[sf,hv.free fun e he=>by
  obtain⟨x,_,rfl⟩:=Bq.1 he
  rfl]
 unfold ua at hR
 cases h:Kf b with
 |none=>rw[h] at hR;obtain rfl:o=_:=hR;exact fun H=>hS.frame dZ hf (tk:=none) (fun k hk=>by cases hk) (n:=2) H rfl
 |some q=>obtain⟨⟨l,ps⟩,z⟩:=q;rw[h] at hR;obtain⟨k,n,pv,rfl,c4,rfl⟩:=hR;obtain⟨c5,c6⟩:=c4.shut;refine⟨k,n,WT pv,rfl,c5,fun H=>hS.frame dZ hf (tk:=none) (fun k hk=>by cases hk) (n:=2) H ?_⟩;have hz:∀y,hY H' none H.next (.int .i64 y)=some (.int .i64 y):=fun y=>rfl;simp only[Out.av,oC,fG,uQ,hz,c6,Bi]
structure At (H Hk:aA) (r c e p:Nat) (v:AV) (b:List Nat) (a:Nat) (cs:List AV):Prop where
 rd:xZ Hk p v b a
 st:pZ H Hk p c
 gr:Hk.get r=some (.cells [.ref p 0] false)
 gc:Hk.get c=some (.cells cs false)
 ge:Hk.get e=some (.cells [v] false)
 lr:r<Hk.next
 lc:c<Hk.next
 le:e<Hk.next
theorem At.step {H Hk Hn:aA} {r c e p:Nat} {v:AV} {b:List Nat} {a a':Nat} {cs:List AV} (h:At H Hk r c e p v b a cs) (n1:r≠p) (n2:c≠p) (n4:e≠p) (hr:xZ Hn p v b a') (hs:fF Hk Hn p):At H Hn r c e p v b a' cs:=
 ⟨hr,h.st.trans hs.qV,(hs.2 r h.lr n1).trans h.gr,(hs.2 c h.lc n2).trans h.gc,(hs.2 e h.le n4).trans h.ge,Aw h.lr hs.1,Aw h.lc hs.1,Aw h.le hs.1⟩
theorem At.vec {H Hk Hn:aA} {r c e p:Nat} {v:AV} {b:List Nat} {a:Nat} {cs:List AV} (h:At H Hk r c e p v b a cs) (hs:∀j,j<Hk.next->Hn.get j=Hk.get j) (hn:Hk.next<=Hn.next):At H Hn r c e p v b a cs:=
 ⟨⟨(hs p h.rd.2.2.2).trans h.rd.1,h.rd.2.1,h.rd.2.2.1,Aw h.rd.2.2.2 hn⟩,h.st.trans ⟨hn,fun j h1 _ _=>hs j h1⟩,(hs r h.lr).trans h.gr,(hs c h.lc).trans h.gc,(hs e h.le).trans h.ge,Aw h.lr hn,Aw h.lc hn,Aw h.le hn⟩
theorem At.put {H Hk:aA} {r c e p:Nat} {v:AV} {b:List Nat} {a:Nat} {cs:List AV} (h:At H Hk r c e p v b a cs) (n2:c≠p) (n3:r≠c) (n5:e≠c) (vI:List AV):At H (Hk.set c (.cells vI false)) r c e p v b a vI:=
 ⟨h.rd.other n2 _,h.st.trans (.set _ _ _ _),by rw[aA.aI,if_neg n3];exact h.gr,by rw[aA.aI,if_pos rfl],by rw[aA.aI,if_neg n5];exact h.ge,h.lr,h.lc,h.le⟩
theorem At.eqv {H Hk Hn:aA} {r c e p:Nat} {v:AV} {b:List Nat} {a:Nat} {cs:List AV} (h:At H Hk r c e p v b a cs) (hs:∀j,Hn.get j=Hk.get j) (hn:Hn.next=Hk.next):At H Hn r c e p v b a cs:=h.vec (fun j _=>hs j) (by omega)
theorem GZ.one {l:List Bool} {w:AV} (h:GZ l w):w.cells=[w]/\w.oK=false:=by rcases h with ⟨rfl,_⟩|⟨k,rfl⟩<;>exact⟨rfl,rfl⟩
theorem FA.one {l:List (List Int)} {w:AV} (h:FA l w):w.cells=[w]/\w.oK=false:=by rcases h with ⟨rfl,_⟩|⟨k,rfl⟩<;>exact⟨rfl,rfl⟩
theorem FA.len {l:List (List Int)} {w:AV} (h:FA l w) (H:aA):cD (fun _=>w) H (.GU (.tmp 0))=some (.int .i64 l.length,H):=by
 rcases h with ⟨rfl,rfl⟩|⟨k,rfl⟩
 . rfl
 simp only[cD,eL]
theorem xP {H:aA} {l:List Int} {w:AV} (hw:HF l w) (hlen:l.length<2^30) (h:l.length%3=0):∃y H',Sound Tryz.prog gv 60 [w] H (.ret y) H'/\FA (AL l) y/\(∀j,j<H.next->H'.get j=H.get j)/\H.next<=H'.next:=by obtain⟨o,H',⟨h1,h2,h3⟩,hS⟩:=Ua (H:=H) hw hlen;rw[if_pos h] at h3;obtain⟨y,rfl,h4⟩:=h3;exact⟨y,H',hS,h4,h1,h2⟩
theorem Mo {H:aA} {l:List Int} {w:AV} (hw:HF l w) (hlen:l.length<2^30) (h:¬l.length%3=0):∃H',Sound Tryz.prog gv 60 [w] H (.pA gH) H'/\(∀j,j<H.next->H'.get j=H.get j)/\H.next<=H'.next:=by obtain⟨o,H',⟨h1,h2,h3⟩,hS⟩:=Ua (H:=H) hw hlen;rw[if_neg h] at h3;subst h3;exact⟨H',hS,h1,h2⟩
theorem fc {H:aA} {r c e p:Nat} {v:AV} {b:List Nat} (h0:At H H r c e p v b 0 [.aF,.aF,.aF,.aF,.aF,.aF]) (hb:Bytes b) (hl:b.length<2^30)
 (n1:r≠p) (n2:c≠p) (n3:r≠c) (n4:e≠p) (n5:e≠c):
 ∃o H',(pZ H H' p c/\match qO b with
  |some d=>o=.ret (iW [])/\∃v1 v2 v3 v4 v5 v6,H'.get c=some (.cells [v1,v2,v3,v4,v5,v6] false)/\GZ d.1 v1/\Ks d.2.1 v2/\FA d.2.2.1 v3/\FA d.2.2.2.1 v4/\GZ d.2.2.2.2.1 v5/\GZ d.2.2.2.2.2 v6
  |none=>o=.pA gH)/\Sound Tryz.prog gv 58 [.ref r 0,.ref c 0,.ref e 0] H o H':=by
 refine bL fit aMt (Ae rfl) ?_;unfold W58;dsimp only;refine aB fun K hK=>?_
 cases h1:CQ b 0 with
 |none=>refine kQ 1 0 (by rfl) (by decide) (by decide) (by decide) (by decide) (by decide) (by decide) (by rfl) fun H1 qH rO=>?_;have a1:=h0.eqv rO qH;obtain⟨H2,hS,s2⟩:=(mC a1.rd hb hl).none h1;simp(decide:=true) only[sO,if_true,Bu];simp only[List.filter,show Nat.blt 1 1=false from rfl,show Nat.blt 8 1=false from rfl,show Nat.blt 9 1=false from rfl,show Nat.blt 12 1=false from rfl,↓zP,zG,seval,zD,reduceCtorEq,zI,a1.gr,kR];refine⟨(59,[],[]),gH,H2,rfl,hS,fun _=>⟨rfl,a1.st.trans s2.qV,?_⟩⟩;simp only[qO,wI,uC,h1]
 |some q=>
  obtain⟨d1,z1⟩:=q
  cases h2:jA b z1 with
  |none=>
   refine kQ 3 0 (by rfl) (by decide) (by decide) (by decide) (by decide) (by decide) (by decide) (by rfl) fun H1 qH rO=>?_;have a1:=h0.eqv rO qH;obtain⟨w,H2,hS,e1,r2,s2⟩:=(mC a1.rd hb hl).some h1;have a2:=a1.step n1 n2 n4 r2 s2;obtain⟨H3,oo,s3⟩:=(Ke a2.rd hb hl).none h2;simp(decide:=true) only[sO,if_true,Bu];simp only[List.filter,show Nat.blt 1 3=true from rfl,show Nat.blt 8 3=false from rfl,show Nat.blt 9 3=false from rfl,show Nat.blt 12 3=false from rfl,↓zP,zG,seval,zD,reduceCtorEq,zI,a1.gr];refine cL (hS:=hS) (by decide) (by simp only[sm,zB,seval]) s2.1 ?_ ?_
   . intro y hy _;simp only[Ah,Al,Bx] at hy
     rcases hy with rfl|rfl<;>exact a1.gr.trans a2.gr.symm
   simp only[↓zP,zG,seval,zD,reduceCtorEq,zI,a2.gr,kR];refine⟨a1.gr,(57,[],[]),gH,H3,rfl,oo,fun _=>⟨rfl,a2.st.trans s3.qV,?_⟩⟩;simp only[qO,wI,uC,h1,h2]
  |some q2=>
   obtain⟨d2,z2⟩:=q2;obtain⟨v1,H2,hS,e1,r2,s2⟩:=(mC h0.rd hb hl).some h1;have a2:=h0.step n1 n2 n4 r2 s2;obtain⟨v2,H3,oo,e2,r3,s3⟩:=(Ke a2.rd hb hl).some h2;have a3:=a2.step n1 n2 n4 r3 s3;obtain⟨o1,o2⟩:=e1.one;obtain⟨o3,o4⟩:=e2.one;refine bK (by decide) ?_;simp only[↓zP,zG,seval,zD,reduceCtorEq,zI,h0.gr];refine cL (hS:=hS) (by decide) (by simp only[sm,zB,seval]) s2.1 ?_ ?_
   . intro y hy _;simp only[Ah,Al,Bx] at hy
     rcases hy with rfl|rfl<;>exact h0.gr.trans a2.gr.symm
   simp only[↓zP,zG,seval,zD,reduceCtorEq,zI,a2.gr];refine⟨h0.gr,?_⟩;refine cL (hS:=oo) (by decide) (by simp only[sm,zB,seval]) s3.1 ?_ ?_
   . intro y hy _;simp only[Ah,Al,Bx] at hy
     rcases hy with rfl|rfl<;>exact a2.gr.trans a3.gr.symm
   simp only[↓zP,zG,seval,zD,reduceCtorEq,zI,a3.gc,o1,o2,o3,o4,List.drop];apply hK;clear hK K;have a5:=(a3.put n2 n3 n5 [v1,.aF,.aF,.aF,.aF,.aF]).put n2 n3 n5 [v1,v2,.aF,.aF,.aF,.aF];generalize (H3.set c (.cells [v1,.aF,.aF,.aF,.aF,.aF] false)).set c (.cells [v1,v2,.aF,.aF,.aF,.aF] false)=H4 at *;clear hS oo s2 s3 r2 r3 a2 a3;refine eS fun f pH=>?_;have f0:f 0=.ref r 0:=(by subst pH;simp only[zB,seval];exact rfl);have f1:f 1=.ref c 0:=(by subst pH;simp only[zB,seval];exact rfl);have f2:f 2=.ref e 0:=(by subst pH;simp only[zB,seval];exact rfl);clear pH;refine aB fun K hK=>?_
   cases h3:WE b z2 with
   |none=>refine kQ 1 0 (by rfl) (by decide) (by decide) (by decide) (by decide) (by decide) (by decide) (by rfl) fun H1 qH rO=>?_;have b1:=a5.eqv rO qH;obtain⟨H5,MM,s5⟩:=(oB b1.rd hb hl).none h3;simp(decide:=true) only[sO,if_true,Bu];simp only[List.filter,show Nat.blt 1 1=false from rfl,show Nat.blt 2 1=false from rfl,show Nat.blt 10 1=false from rfl,show Nat.blt 11 1=false from rfl,show Nat.blt 15 1=false from rfl,↓zP,zG,seval,zD,reduceCtorEq,zI,f0,b1.gr,kR];refine⟨(61,[],[]),gH,H5,rfl,MM,fun _=>⟨rfl,b1.st.trans s5.qV,?_⟩⟩;simp only[qO,wI,uC,GW,h1,h2,h3]
   |some q=>
    obtain⟨l3,z3⟩:=q;have y3:=Ny h3 a5.rd.2.2.1 hb hl;by_cases m3:l3.length%3=0;rotate_left
    . refine kQ 2 0 (by rfl) (by decide) (by decide) (by decide) (by decide) (by decide) (by decide) (by rfl) fun H1 qH rO=>?_;have b1:=a5.eqv rO qH;obtain⟨w,H5,MM,e3,r5,s5⟩:=(oB b1.rd hb hl).some h3;have b5:=b1.step n1 n2 n4 r5 s5;obtain⟨H6,Wp,p6,q6⟩:=Mo (H:=H5) e3 y3 m3;have b6:=b5.vec p6 q6;simp(decide:=true) only[sO,if_true,Bu];simp only[List.filter,show Nat.blt 1 2=true from rfl,show Nat.blt 2 2=false from rfl,show Nat.blt 10 2=false from rfl,show Nat.blt 11 2=false from rfl,show Nat.blt 15 2=false from rfl,↓zP,zG,seval,zD,reduceCtorEq,zI,f0,b1.gr];refine cL (hS:=MM) (by decide) (by simp only[sm,zB,seval]) s5.1 ?_ ?_
      . intro y hy _;simp only[Ah,Al,Bx] at hy
        rcases hy with rfl|rfl<;>exact b1.gr.trans b5.gr.symm
      simp only[↓zP,zG,seval,zD,reduceCtorEq,zI,f0,b5.gr,kR];refine⟨b1.gr,(60,[],[]),gH,H6,rfl,Wp,fun _=>⟨rfl,b6.st,?_⟩⟩;simp only[qO,wI,uC,GW,h1,h2,h3,if_neg m3]
    cases h4:WE b z3 with
    |none=>
     refine kQ 4 0 (by rfl) (by decide) (by decide) (by decide) (by decide) (by decide) (by decide) (by rfl) fun H1 qH rO=>?_;have b1:=a5.eqv rO qH;obtain⟨w,H5,MM,e3,r5,s5⟩:=(oB b1.rd hb hl).some h3;have b5:=b1.step n1 n2 n4 r5 s5;obtain⟨v3,H6,Wp,e4,p6,q6⟩:=xP (H:=H5) e3 y3 m3;have b6:=b5.vec p6 q6;obtain⟨H7,hS7,s7⟩:=(oB b6.rd hb hl).none h4;simp(decide:=true) only[sO,if_true,Bu];simp only[List.filter,show Nat.blt 1 4=true from rfl,show Nat.blt 2 4=true from rfl,show Nat.blt 10 4=false from rfl,show Nat.blt 11 4=false from rfl,show Nat.blt 15 4=false from rfl,↓zP,zG,seval,zD,reduceCtorEq,zI,f0,b1.gr];refine cL (hS:=MM) (by decide) (by simp only[sm,zB,seval]) s5.1 ?_ ?_
     . intro y hy _;simp only[Ah,Al,Bx] at hy
       rcases hy with rfl|rfl<;>exact b1.gr.trans b5.gr.symm
     simp only[seval];refine cL (hS:=Wp) (by decide) (by simp only[sm,zB,seval]) q6 ?_ ?_
     . intro y hy _;simp only[Ah,Al,Bx] at hy
       rcases hy with rfl|rfl<;>exact b5.gr.trans b6.gr.symm
     simp only[↓zP,zG,seval,zD,reduceCtorEq,zI,f0,b6.gr,kR];refine⟨⟨b5.gr,b1.gr.trans b5.gr.symm⟩,(61,[],[]),gH,H7,rfl,hS7,fun _=>⟨rfl,b6.st.trans s7.qV,?_⟩⟩;simp only[qO,wI,uC,GW,h1,h2,h3,if_pos m3,h4]
    |some q=>
     obtain⟨l4,z4⟩:=q;have x4:z3<=b.length:=((oB a5.rd hb hl).some h3).choose_spec.choose_spec.2.2.1.2.2.1;have y4:=Ny h4 x4 hb hl;by_cases m4:l4.length%3=0;rotate_left
     . refine kQ 5 0 (by rfl) (by decide) (by decide) (by decide) (by decide) (by decide) (by decide) (by rfl) fun H1 qH rO=>?_;have b1:=a5.eqv rO qH;obtain⟨w,H5,MM,e3,r5,s5⟩:=(oB b1.rd hb hl).some h3;have b5:=b1.step n1 n2 n4 r5 s5;obtain⟨v3,H6,Wp,e4,p6,q6⟩:=xP (H:=H5) e3 y3 m3;have b6:=b5.vec p6 q6;obtain⟨w4,H7,hS7,e5,r7,s7⟩:=(oB b6.rd hb hl).some h4;have b7:=b6.step n1 n2 n4 r7 s7;obtain⟨H8,hS8,p8,q8⟩:=Mo (H:=H7) e5 y4 m4;have b8:=b7.vec p8 q8;simp(decide:=true) only[sO,if_true,Bu];simp only[List.filter,show Nat.blt 1 5=true from rfl,show Nat.blt 2 5=true from rfl,show Nat.blt 10 5=false from rfl,show Nat.blt 11 5=false from rfl,show Nat.blt 15 5=false from rfl,↓zP,zG,seval,zD,reduceCtorEq,zI,f0,b1.gr];refine cL (hS:=MM) (by decide) (by simp only[sm,zB,seval]) s5.1 ?_ ?_
       . intro y hy _;simp only[Ah,Al,Bx] at hy
         rcases hy with rfl|rfl<;>exact b1.gr.trans b5.gr.symm
       simp only[seval];refine cL (hS:=Wp) (by decide) (by simp only[sm,zB,seval]) q6 ?_ ?_
       . intro y hy _;simp only[Ah,Al,Bx] at hy
         rcases hy with rfl|rfl<;>exact b5.gr.trans b6.gr.symm
       simp only[↓zP,zG,seval,zD,reduceCtorEq,zI,f0,b6.gr];refine⟨⟨b5.gr,b1.gr.trans b5.gr.symm⟩,?_⟩;refine cL (hS:=hS7) (by decide) (by simp only[sm,zB,seval]) s7.1 ?_ ?_
       . intro y hy _;simp only[Ah,Al,Bx] at hy
         rcases hy with rfl|rfl<;>exact b6.gr.trans b7.gr.symm
       simp only[↓zP,zG,seval,zD,reduceCtorEq,zI,kR];refine⟨(60,[],[]),gH,H8,rfl,hS8,fun _=>⟨rfl,b8.st,?_⟩⟩;simp only[qO,wI,uC,GW,h1,h2,h3,if_pos m3,h4,if_neg m4]
     obtain⟨w,H5,MM,e3,r5,s5⟩:=(oB a5.rd hb hl).some h3;have b5:=a5.step n1 n2 n4 r5 s5;obtain⟨v3,H6,Wp,e4,p6,q6⟩:=xP (H:=H5) e3 y3 m3;have b6:=b5.vec p6 q6;obtain⟨w4,H7,hS7,e5,r7,s7⟩:=(oB b6.rd hb hl).some h4;have b7:=b6.step n1 n2 n4 r7 s7;obtain⟨v4,H8,hS8,e6,p8,q8⟩:=xP (H:=H7) e5 y4 m4;have b8:=b7.vec p8 q8;obtain⟨o5,o6⟩:=e4.one;obtain⟨o7,o8⟩:=e6.one;refine bK (by decide) ?_;simp only[↓zP,zG,seval,zD,reduceCtorEq,zI,f0,a5.gr];refine cL (hS:=MM) (by decide) (by simp only[sm,zB,seval]) s5.1 ?_ ?_
     . intro y hy _;simp only[Ah,Al,Bx] at hy
       rcases hy with rfl|rfl<;>exact a5.gr.trans b5.gr.symm
     simp only[seval];refine cL (hS:=Wp) (by decide) (by simp only[sm,zB,seval]) q6 ?_ ?_
     . intro y hy _;simp only[Ah,Al,Bx] at hy
       rcases hy with rfl|rfl<;>exact b5.gr.trans b6.gr.symm
     simp only[↓zP,zG,seval,zD,reduceCtorEq,zI,f0,b6.gr];refine⟨⟨b5.gr,a5.gr.trans b5.gr.symm⟩,?_⟩;refine cL (hS:=hS7) (by decide) (by simp only[sm,zB,seval]) s7.1 ?_ ?_
     . intro y hy _;simp only[Ah,Al,Bx] at hy
       rcases hy with rfl|rfl<;>exact b6.gr.trans b7.gr.symm
     simp only[seval];refine cL (hS:=hS8) (by decide) (by simp only[sm,zB,seval]) q8 ?_ ?_
     . intro y hy _;simp only[Ah,Al,Bx] at hy
       rcases hy with rfl|rfl<;>exact b7.gr.trans b8.gr.symm
     simp only[↓zP,zG,seval,zD,reduceCtorEq,zI,f1,b8.gc,o5,o6,o7,o8,List.drop];apply hK;clear hK K;have a9:=(b8.put n2 n3 n5 [v1,v2,v3,.aF,.aF,.aF]).put n2 n3 n5 [v1,v2,v3,v4,.aF,.aF];generalize (H8.set c (.cells [v1,v2,v3,.aF,.aF,.aF] false)).set c (.cells [v1,v2,v3,v4,.aF,.aF] false)=H9 at *;clear MM Wp hS7 hS8 s5 s7 p6 q6 p8 q8 b5 b6 b7 b8 r5 r7 e3 e5;refine eS fun g xS=>?_;have k0:g 0=.ref r 0:=(by subst xS;simp only[zB,seval];exact f0);have k1:g 1=.ref c 0:=(by subst xS;simp only[zB,seval];exact f1);have k2:g 2=.ref e 0:=(by subst xS;simp only[zB,seval];exact f2);clear xS f0 f1 f2;refine aB fun K hK=>?_
     cases h5:CQ b z4 with
     |none=>refine kQ 1 0 (by rfl) (by decide) (by decide) (by decide) (by decide) (by decide) (by decide) (by rfl) fun H1 qH rO=>?_;have b1:=a9.eqv rO qH;obtain⟨H5,MM,s5⟩:=(mC b1.rd hb hl).none h5;simp(decide:=true) only[sO,if_true,Bu];simp only[List.filter,show Nat.blt 1 1=false from rfl,show Nat.blt 8 1=false from rfl,show Nat.blt 9 1=false from rfl,show Nat.blt 12 1=false from rfl,↓zP,zG,seval,zD,reduceCtorEq,zI,k0,b1.gr,kR];refine⟨(59,[],[]),gH,H5,rfl,MM,fun _=>⟨rfl,b1.st.trans s5.qV,?_⟩⟩;simp only[qO,wI,uC,GW,h1,h2,h3,if_pos m3,h4,if_pos m4,h5]
     |some q=>
      obtain⟨d5,z5⟩:=q
      cases h6:CQ b z5 with
      |none=>
       refine kQ 3 0 (by rfl) (by decide) (by decide) (by decide) (by decide) (by decide) (by decide) (by rfl) fun H1 qH rO=>?_;have b1:=a9.eqv rO qH;obtain⟨v5,H5,MM,e7,r5,s5⟩:=(mC b1.rd hb hl).some h5;have b5:=b1.step n1 n2 n4 r5 s5;obtain⟨H6,Wp,s6⟩:=(mC b5.rd hb hl).none h6;simp(decide:=true) only[sO,if_true,Bu];simp only[List.filter,show Nat.blt 1 3=true from rfl,show Nat.blt 8 3=false from rfl,show Nat.blt 9 3=false from rfl,show Nat.blt 12 3=false from rfl,↓zP,zG,seval,zD,reduceCtorEq,zI,k0,b1.gr];refine cL (hS:=MM) (by decide) (by simp only[sm,zB,seval]) s5.1 ?_ ?_
       . intro y hy _;simp only[Ah,Al,Bx] at hy
         rcases hy with rfl|rfl<;>exact b1.gr.trans b5.gr.symm
       simp only[↓zP,zG,seval,zD,reduceCtorEq,zI,k0,b5.gr,kR];refine⟨b1.gr,(59,[],[]),gH,H6,rfl,Wp,fun _=>⟨rfl,b5.st.trans s6.qV,?_⟩⟩;simp only[qO,wI,uC,GW,h1,h2,h3,if_pos m3,h4,if_pos m4,h5,h6]
      |some q=>
       obtain⟨d6,z6⟩:=q;obtain⟨v5,H5,MM,e7,r5,s5⟩:=(mC a9.rd hb hl).some h5;have b5:=a9.step n1 n2 n4 r5 s5;obtain⟨v6,H6,Wp,e8,r6,s6⟩:=(mC b5.rd hb hl).some h6;have b6:=b5.step n1 n2 n4 r6 s6;obtain⟨p1,p2⟩:=e7.one;obtain⟨p3,p4⟩:=e8.one;refine bK (by decide) ?_;simp only[↓zP,zG,seval,zD,reduceCtorEq,zI,k0,a9.gr];refine cL (hS:=MM) (by decide) (by simp only[sm,zB,seval]) s5.1 ?_ ?_
       . intro y hy _;simp only[Ah,Al,Bx] at hy
         rcases hy with rfl|rfl<;>exact a9.gr.trans b5.gr.symm
       simp only[↓zP,zG,seval,zD,reduceCtorEq,zI,k0,b5.gr];refine⟨a9.gr,?_⟩;refine cL (hS:=Wp) (by decide) (by simp only[sm,zB,seval]) s6.1 ?_ ?_
       . intro y hy _;simp only[Ah,Al,Bx] at hy
         rcases hy with rfl|rfl<;>exact b5.gr.trans b6.gr.symm
       simp only[↓zP,zG,seval,zD,reduceCtorEq,zI,k1,b6.gc,p1,p2,p3,p4,List.drop];apply hK;clear hK K;have c6:=(b6.put n2 n3 n5 [v1,v2,v3,v4,v5,.aF]).put n2 n3 n5 [v1,v2,v3,v4,v5,v6];generalize (H6.set c (.cells [v1,v2,v3,v4,v5,.aF] false)).set c (.cells [v1,v2,v3,v4,v5,v6] false)=H7 at *;have lv:=h0.rd.2.1.len H7;simp only[cD] at lv;rw[bB] at lv;have l3':=e4.len H7;have l4':=e6.len H7;simp only[cD] at l3' l4'
       have hR:qO b=if z6=b.length/\(AL l3).length=(AL l4).length then some (d1,d2,AL l3,AL l4,d5,d6) else none:=by simp only[qO,wI,uC,GW,h1,h2,h3,if_pos m3,h4,if_pos m4,h5,h6]
       refine aB fun K hK=>?_;by_cases y1:z6=b.length
       . have x1:((z6:Int) != (b.length:Int))=false:=(by rw[y1];simp);refine bK (by decide) ?_;simp only[↓zP,zG,seval,zD,reduceCtorEq,zI,k0,k1,k2,c6.gr,c6.gc,c6.ge,c6.rd.1,lv,l3',l4',x1];apply hK;clear hK K;by_cases y2:(AL l3).length=(AL l4).length
         . have x2:(((AL l3).length:Int) != ((AL l4).length:Int))=false:=(by rw[y2];simp);simp only[↓zP,zG,seval,x2];refine⟨rfl,[],rfl,c6.st,?_⟩;rw[hR,if_pos ⟨y1,y2⟩];exact⟨rfl,v1,v2,v3,v4,v5,v6,c6.gc,e1,e2,e4,e6,e7,e8⟩
         have x2:(((AL l3).length:Int) != ((AL l4).length:Int))=true:=(by rw[El];omega);simp only[↓zP,zG,seval,zI,x2];refine jJ (t:=133) (v:=.agg []) (by simp only[↓zP,seval]) ?_;refine⟨rfl,c6.st,?_⟩;rw[hR,if_neg (fun h=>y2 h.2)];rfl
       have x1:((z6:Int) != (b.length:Int))=true:=(by rw[El];omega);refine bK (by decide) ?_;simp only[↓zP,zG,seval,zD,reduceCtorEq,zI,k0,k2,c6.gr,c6.ge,c6.rd.1,lv,x1];apply hK;clear hK K;simp only[↓zP,zG,seval,zI];refine jJ (t:=133) (v:=.agg []) (by simp only[↓zP,seval]) ?_;refine⟨rfl,c6.st,?_⟩;rw[hR,if_neg (fun h=>y1 h.1)];rfl
end Go.Proofs.YtgggiembljfnhaaGreatDoor
