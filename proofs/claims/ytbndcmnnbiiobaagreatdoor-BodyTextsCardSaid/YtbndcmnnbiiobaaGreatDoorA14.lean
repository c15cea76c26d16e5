/-
  Part of the proof of statement 5
-/
import Derived.Test.YtbndcmnnbiiobaaGreatDoorA09
import Derived.Test.YtbndcmnnbiiobaaGreatDoorA07
import Derived.Test.YtbndcmnnbiiobaaGreatDoorA06
import Derived.Test.YtbndcmnnbiiobaaGreatDoorA13
import Derived.Test.YtbndcmnnbiiobaaGreatDoorA12
import Derived.Test.YtbndcmnnbiiobaaGreatDoorA10
set_option linter.unusedVariables false
set_option maxRecDepth 100000
set_option maxHeartbeats 16000000
namespace Go.Proofs.YtbndcmnnbiiobaaGreatDoor
open Go Go.Av
attribute [local congr] aU aO aP aN aY aR aQ aI aZ
attribute [local irreducible] FC bL eU
def UN (c:Nat):Bool:=decide (97<=c|||32)&&decide (c|||32<=122)&&decide (c<128)
def BA (i c:Nat):Bool:=UN c||(!decide (i=0)&&(decide (c=95)||(decide (48<=c)&&decide (c<=57))))
def mJ (s:List UInt8):Bool:=(List.range s.length).all (fun k=>BA k (s.getD k 0).toNat)&&(decide (1<=s.length)&&decide (s.length<=32))
theorem yR (b:Bool) (A B:Prop):iW aD b A B=B:=rfl
theorem rE (s:List UInt8):(Qs s).length=s.length:=by simp[Qs]
theorem Qb {s:List UInt8} {i:Nat} (h:i<s.length):(Qs s).getD i []=[.int .u8 ((s.getD i 0).toNat:Nat)]:=by simp[Qs,List.getD,h]
theorem Xr (s:List UInt8) (hlen:s.length<2^63) (H:aA):Sg 39 [.str s] H (.ret (.bool (mJ s))) H:=by
 refine Sp bHg (by simp only[sf]) (by simp only[sf]) ?_ H;unfold W39;dsimp only;simp only[↓zP,zJ,seval,rE];refine bQ [] (fun i vs H'=>∀k,k<i->BA k (s.getD k 0).toNat=true) s.length (by omega) (by decide) ?_ ?_ ?_ ?_ ?_
 · simp only[zB,seval]
 · simp only[zB,seval]
 · exact fun k hk=>absurd hk (Ax _)
 · rintro i f H1 hi hk e1 hJ;have hg:=Qb hi;have aAx:(s.getD i 0).toNat<2^8:=(s.getD i 0).toNat_lt
   have dB:BA i (s.getD i 0).toNat=true->∀k,k<i+1->BA k (s.getD k 0).toNat=true:=fun h k hk=>by
    by_cases e:k=i
    · subst e;exact h
    exact hJ k (by omega)
   have vJ:BA i (s.getD i 0).toNat=false->mJ s=false:=fun h=>by
    have :(List.range s.length).all (fun k=>BA k (s.getD k 0).toNat)=false:=by rw[Hu];exact⟨i,Bi.2 hi,by rw[h];decide⟩
    unfold mJ;rw[this];rfl
   generalize (s.getD i 0).toNat=c at *;have SO:IC .or .u8 (c:Int) (32:Int)=some (.int .u8 ((c|||32:Nat):Int)):=aGe (k:=.u8) rfl aAx (b:=32) (by decide);have d1:decide (((c|||32:Nat):Int)≥97)=decide (97<=c|||32):=(by rw[Az];omega);have d2:decide (((c|||32:Nat):Int)<=122)=decide (c|||32<=122):=(by rw[Az];omega);have d3:decide ((c:Int)<128)=decide (c<128):=(by rw[Az];omega);have d4:((i:Int)==0)=decide (i=0):=by rw[Gm,Az];omega
   have d5:((c:Int) != 95)= !decide (c=95):=by have :((c:Int)==95)=decide (c=95):=(by rw[Gm,Az];omega);rw[bne,this]
   have d6:decide ((c:Int)<48)= !decide (48<=c):=(by rw[<-Hd,Az];omega);have d7:decide ((c:Int)>57)= !decide (c<=57):=(by rw[<-Hd,Az];omega);refine aH ?_;refine bS ?_;simp only[↓zP,zJ,seval,e1,hk 7 rfl,aB,rE,hi,hg];refine bT ?_;refine aJ fun K2 cK=>?_
   have key:∀f':cU,f' 3=.int .i64 i->f' 4=.int .u8 c->f' 5=.bool (UN c)->K2 f' [] H1:=by
    intro f' v3 v4 v5;apply cK;clear cK K2;unfold BA at dB vJ
    cases hL:UN c with
    |true=>rw[hL] at v5 dB;simp only[↓zP,zJ,seval,v5];exact dB (by simp)
    |false=>
     rw[hL] at v5 dB vJ
     cases h4:decide (i=0) with
     |true=>rw[h4] at d4 vJ;simp only[↓zP,zJ,seval,v5,v3,d4];exact⟨rfl,[.bool false],by simp only[tA,RV,zB,seval],by rw[vJ (by simp)];rfl⟩
     |false=>
      rw[h4] at d4 dB vJ
      cases h5:decide (c=95) with
      |true=>rw[h5] at d5 dB;simp only[↓zP,zJ,seval,v5,v3,v4,d4,d5];exact dB (by simp)
      |false=>
       rw[h5] at d5 dB vJ
       cases h6:decide (48<=c) with
       |false=>rw[h6] at d6 vJ;simp only[↓zP,zJ,seval,v5,v3,v4,d4,d5,d6];exact⟨rfl,[.bool false],by simp only[tA,RV,zB,seval],by rw[vJ (by simp)];rfl⟩
       |true=>
        rw[h6] at d6 dB vJ
        cases h7:decide (c<=57) with
        |false=>rw[h7] at d7 vJ;simp only[↓zP,zJ,seval,v5,v3,v4,d4,d5,d6,d7];exact⟨rfl,[.bool false],by simp only[tA,RV,zB,seval],by rw[vJ (by simp)];rfl⟩
        |true=>rw[h7] at d7 dB;simp only[↓zP,zJ,seval,v5,v3,v4,d4,d5,d6,d7];exact dB (by simp)
   clear cK dB vJ d4 d5 d6 d7;unfold UN at key
   cases h1:decide (97<=c|||32) with
   |false=>rw[h1] at d1 key;simp only[↓zP,zG,seval,SO,d1];exact key _ (by simp only[zB,seval]) (by simp only[zB,seval]) (by simp only[zB,seval];rfl)
   |true=>
    rw[h1] at d1 key
    cases h2:decide (c|||32<=122) with
    |false=>rw[h2] at d2 key;simp only[↓zP,zG,seval,SO,d1,d2];exact key _ (by simp only[zB,seval]) (by simp only[zB,seval]) (by simp only[zB,seval];rfl)
    |true=>rw[h2] at d2 key;simp only[↓zP,zG,seval,SO,d1,d2,d3];exact key _ (by simp only[zB,seval]) (by simp only[zB,seval]) (by simp only[zB,seval];rfl)
 rintro f H1 hk hJ
 have dB:(List.range s.length).all (fun k=>BA k (s.getD k 0).toNat)=true:=by rw[Ba];exact fun k hk=>hJ k (Bi.1 hk)
 unfold mJ;rw[dB];have f0:f 0=.str s:=hk 0 rfl;have d1:decide ((s.length:Int)≥1)=decide (1<=s.length):=by rw[Az];omega
 have d2:decide ((s.length:Int)<=32)=decide (s.length<=32):=by rw[Az];omega
 cases h1:decide (1<=s.length) with
 |false=>rw[h1] at d1;simp only[↓zP,zG,seval,f0,d1];exact⟨rfl,[.bool false],by simp only[tA,RV,zB,seval],rfl⟩
 |true=>rw[h1] at d1;simp only[↓zP,zG,seval,f0,d1,d2];exact⟨rfl,[.bool (decide (s.length<=32))],by simp only[tA,RV,zB,seval],rfl⟩
end Go.Proofs.YtbndcmnnbiiobaaGreatDoor
namespace Go.Proofs.YtbndcmnnbiiobaaGreatDoor
open Go Go.Av Go.aG
theorem Pr (l:List aG.V):∃C,Ord l C:=by obtain⟨s,h1,h2⟩:=vZ (fun a b:aG.V=>¬gW b a) (fun {a b c} h h'=>by unfold gW at *;omega) (fun a b=>by unfold gW;omega) l;exact⟨dd s s.length,Yu h2 _ (Ak _),fun v=>by rw[Oc s v _ (Ak _),Ar];exact h1.mem_iff⟩
noncomputable def RY (l:List aG.V):List aG.V:=Classical.choose (Pr l)
theorem xY (l:List aG.V):Ord l (RY l):=Jb (Pr l)
noncomputable def iJ (C:List aG.V):List (aG.V×Int):=Classical.choose (pD.exists (fun i=>C.getD i V0) C.length)
theorem tP (C:List aG.V):pD (fun i=>C.getD i V0) C.length (iJ C):=Jb (pD.exists (fun i=>C.getD i V0) C.length)
open Classical in
noncomputable def mV (C:List aG.V) (q:aG.V×Int):List Nat:=if h:∃L,Poly (fun i=>C.getD i V0) C.length q.1 q.2 L then Classical.choose h else []
theorem OO {C:List aG.V} (h:C.Pairwise gW):xk (fun i=>C.getD i V0) C.length:=fun i j AE hj=>by
 have h1:C.getD i V0=C[i]:=by simp[List.getD,Cg AE hj]
 have h2:C.getD j V0=C[j]:=by simp[List.getD,hj]
 simp only[h1,h2];exact Gn.1 h i j (Cg AE hj) hj AE
theorem nO {C:List aG.V} (h:C.Pairwise gW):wS C (iJ C) (mV C) where
 fl:=tP C
 po q hq:=by have hF:=((tP C).mem q).1 hq;have hx:=Poly.exists (OO h) hF.fh;unfold mV;rw[dif_pos hx];exact Jb hx
noncomputable def oX (l:List aG.V):Int:=OS l (RY l) (iJ (RY l)) (mV (RY l))
theorem Ps {l:List aG.V} (h:l.Pairwise gW):RY l=l:=Ord.uniq (xY l) ⟨h,fun v=>Iff.rfl⟩
theorem vW {l:List aG.V} (h:oX l=0):l.Pairwise gW/\RY l=l/\iJ l≠[]/\(iJ l).length<=64/\l.length<=64/\l≠[]/\∀v∈l,bM (2^18) v:=by
 unfold oX OS at h;split at h
 · cases h
 rename_i h1;have h2:gQ (RY l) (iJ (RY l)) (mV (RY l))=l:=Cp fun hc=>h1 ⟨h,hc⟩;obtain⟨a1,a2,a3⟩:=UC h;have hs:=(xY l).TD
 have BP:l.Pairwise gW:=by rw[<-h2];unfold gQ;rw[Iv];refine Jw (R:=fun a b=>a<b) ?_ (List.Pairwise.filter _ Kf);intro a b ha hb EC;exact OO hs a b EC (by simpa using(Ga.1 hb).1)
 have he:=Ps BP;have bN:=PD (nO hs) a1;rw[h2] at bN;rw[he] at a1;refine⟨BP,he,a1,?_,a3,bN,?_⟩
 · unfold iD at h;rw[he] at h;split at h
   · cases h
   split at h
   · cases h
   split at h
   · cases h
   split at h
   · cases h
   omega
 unfold iD at h;split at h
 · cases h
 split at h
 · cases h
 rename_i hb;intro v hv;have wN:l.all ib=true:=by simpa using hb
 exact PH.1 (Ba.1 wN v hv)
theorem IE:oX []=120:=by
 have h:RY []=[]:=Ps .nil;unfold oX OS;rw[h]
 have hS:iJ []=[]:=by
  cases hf:iJ [] with
  |nil=>rfl
  |cons q r=>have :=((tP []).mem q).1 (by rw[hf];simp);obtain⟨k,hk,_⟩:=this.lt;exact absurd hk (Ax _)
 rw[hS];rfl
def IsE (l:List aG.V) (v:aG.V):Prop:=∃q:aG.V×Int,qD (fun i=>l.getD i V0) l.length q.1 q.2/\∃a b,Sd q.1 (fun i=>l.getD i V0) (jP (fun i=>l.getD i V0) l.length q.1 q.2) a b/\a∈jP (fun i=>l.getD i V0) l.length q.1 q.2/\a<b/\v=aG.sub (l.getD b V0) (l.getD a V0)
def IsD (a b:List aG.V) (n:aG.V):Prop:=(∃d,qD (fun i=>a.getD i V0) a.length n d)\/(∃d,qD (fun i=>b.getD i V0) b.length n d)\/∃u w,IsE a u/\IsE b w/\n=aG.aT u w/\n≠V0
open Classical in
noncomputable def lX (a b:List aG.V):Bool:=decide (∃n,IsD a b n/\oF a b n=true)
theorem pM {a b:List aG.V}:lX a b=true↔∃n,IsD a b n/\oF a b n=true:=by unfold lX;exact @decide_eq_true_iff _ (Classical.propDecidable _)
theorem kd {l:List aG.V} {S:List (aG.V×Int)} {L:aG.V×Int->List Nat} (hS:wS l S L) (hlen:l.length<=64):∀q∈S,(L q).length<=64:=fun q hq=>by obtain⟨s,r,m,e,W,h⟩:=(hS.po q hq).ex;rw[h,Ad,Bs];have h1:=W.le;have h2:=Dj (fun k=>decide (aG.dot q.1 (l.getD k V0)=q.2)) (List.range l.length);rw[Bs] at h2;have h3:(jP (fun i=>l.getD i V0) l.length q.1 q.2).length<=l.length:=h2;omega
theorem aGw {L:aG.V×Int->List Nat}:∀T:List (aG.V×Int),(∀q∈T,(L q).length<=64)->(HG T L).length<=T.length*64:=fun T=>by
 induction T with
 |nil=>intro _;simp[HG]
 |cons q T ih=>intro h;have h1:=ih fun x hx=>h x (Aw _ hx);have h2:=h q Au;have h3:=mA (fun i=>if(L q).getD i 0<(L q).getD ((i+1)%(L q).length) 0 then [((((L q).getD i 0:Nat):Int),(((L q).getD ((i+1)%(L q).length) 0:Nat):Int))] else []) 1 (fun i=>by split<;>simp) (List.range (L q).length);rw[Bs,Dl] at h3;have h4:(YC (L q) (L q).length).length<=(L q).length:=h3;simp only[HG,Cl,An,Ah,Ce,Gq] at h1 ⊢;omega
theorem zA {l:List aG.V} {S:List (aG.V×Int)} {L:aG.V×Int->List Nat} (hS:wS l S L) {x:Int×Int}:
 x∈HG S L↔∃q∈S,∃a b:Nat,aG.Next (L q) a b/\a<b/\x=pN (a,b):=by
 simp only[HG,En];constructor
 · rintro⟨q,hq,hx⟩;simp only[YC,En,Bi] at hx;obtain⟨i,hi,hx⟩:=hx;split at hx
   · rename_i h;rw[Bq] at hx;have o9:(i+1)%(L q).length<(L q).length:=De _ (by omega);refine⟨q,hq,(L q).getD i 0,(L q).getD ((i+1)%(L q).length) 0,⟨i,hi,?_,?_⟩,h,hx⟩
     · simp[List.getD,hi]
     simp[List.getD,o9]
   cases hx
 rintro⟨q,hq,a,b,⟨i,hi,h1,h2⟩,EC,rfl⟩;refine⟨q,hq,?_⟩;simp only[YC,En,Bi];refine⟨i,hi,?_⟩;have e1:(L q).getD i 0=a:=by simp[List.getD,h1]
 have e2:(L q).getD ((i+1)%(L q).length) 0=b:=by simp[List.getD,h2]
 rw[e1,e2,if_pos EC];simp[pN]
theorem Og {l:List aG.V} (hl:l.Pairwise gW) {S:List (aG.V×Int)} {L:aG.V×Int->List Nat} (hS:wS l S L) (bN:S≠[]):HG S L≠[]:=by
 obtain⟨q,r,rfl⟩:=Et bN;have hq:=Au (a:=q) (l:=r);have hF:=(hS.fl.mem q).1 hq;have hP:=hS.po q hq
 have hlen:0<(L q).length:=by obtain⟨s,r',m,e,W,h⟩:=hP.ex;rw[h];simpa using W.pos
 have o9:(0+1)%(L q).length<(L q).length:=De _ hlen;have hN:aG.Next (L q) (L q)[0] (L q)[(0+1)%(L q).length]:=⟨0,hlen,Ab hlen,Ab o9⟩;generalize (L q)[0]=a at *;generalize (L q)[(0+1)%(L q).length]=b at *;have SP:=hP.mD.1 hN;have EC:b≠a:=SP.2.2.1;intro he
 rcases Hg a b with h|h
 · have :pN (a,b)∈HG (q::r) L:=(zA hS).2 ⟨q,hq,a,b,hN,h,rfl⟩;rw[he] at this;cases this
 obtain⟨n',d',L',F',P',hN'⟩:=hP.back (OO hl) hF hN;have Tx:=(hS.fl.mem (n',d')).2 F';have hL':=P'.uniq (hS.po _ Tx);rw[hL'] at hN';have :pN (b,a)∈HG (q::r) L:=(zA hS).2 ⟨(n',d'),Tx,b,a,hN',by omega,rfl⟩;rw[he] at this;cases this
theorem SS {tag:Nat} (ht:Nat.blt tag 2=true) {l:List aG.V} (h0:oX l=0):∃U:List aG.V,U.length<=2^20/\(∀v,v∈U↔IsE l v)/\(∀v∈U,bM (2^19) v)/\
 (∀H,Sg 127 [.agg [.aV tag 3 (bF l)]] H (.ret (.aV (H.next+2) 5 ((iJ l).map (cQ (mV l))))) (H.alloc .tok))/\
 ∀H,Sg 128 [.agg [.aV tag 3 (bF l)]] H (.ret (.aV 0 3 (bF U))) H:=by
 obtain⟨hs,_,bN,IU,hlen,NN,hn⟩:=vW h0;have hF:=nO hs;obtain⟨E,p1,p2,p3⟩:=xo ht hn (Ak _) hlen hF bN IU;have hE:∀x∈E,∃q∈iJ l,∃a b:Nat,aG.Next (mV l q) a b/\a<b/\x=pN (a,b):=fun x hx=>(zA hF).1 (p1.mem_iff.1 hx)
 have Tt:E=(E.map fun x=>(x.1.toNat,x.2.toNat)).map pN:=by rw[Dp];refine(Hc E).symm.trans (Ef fun x hx=>?_);obtain⟨q,hq,a,b,_,_,rfl⟩:=hE x hx;simp[pN]
 have WU:E.length<=2^20:=by rw[p1.length_eq];have :=aGw (L:=mV l) (iJ l) (kd hF hlen);have :(iJ l).length*64<=64*64:=Bv IU (Ak _);omega
 have hE0:E≠[]:=fun h=>Og hs hF bN (by rw[h] at p1;exact List.Perm.eq_nil p1.symm);generalize hE':(E.map fun x=>(x.1.toNat,x.2.toNat))=E' at *
 have ZU:∀p:Nat×Nat,p∈E'↔∃q∈iJ l,aG.Next (mV l q) p.1 p.2/\p.1<p.2:=fun p=>by
  rw[<-hE',Bf];constructor
  · rintro⟨x,hx,rfl⟩;obtain⟨q,hq,a,b,h1,h2,rfl⟩:=hE x hx;exact⟨q,hq,by simpa [pN] using h1,by simpa [pN] using h2⟩
  rintro⟨q,hq,h1,h2⟩;exact⟨pN p,p1.mem_iff.2 ((zA hF).2 ⟨q,hq,p.1,p.2,h1,h2,rfl⟩),by simp[pN]⟩
 have YF:∀q∈iJ l,∀a b,aG.Next (mV l q) a b->a<l.length/\b<l.length:=fun q hq a b h=>by have h1:=(hF.po q hq).mD.1 h;exact⟨(dN.1 h1.1).1,(dN.1 h1.2.1).1⟩
 refine⟨E'.map (EN l),?_,?_,?_,fun H=>KZ ht hn (Ak _) hlen hF bN H,fun H=>l7 ht hn (Ak _) (E:=E') ?_ ?_ ?_ ?_ H⟩
 · rw[Ad,<-hE',Ad];exact WU
 · intro v;rw[Bf];constructor
   · rintro⟨p,hp,rfl⟩;obtain⟨q,hq,h1,h2⟩:=(ZU p).1 hp;have h3:=(hF.po q hq).mD.1 h1;exact⟨q,(hF.fl.mem q).1 hq,p.1,p.2,h3.2,h3.1,h2,rfl⟩
   rintro⟨q,hq,a,b,h1,h2,h3,rfl⟩;have Tx:=(hF.fl.mem q).2 hq;exact⟨(a,b),(ZU (a,b)).2 ⟨q,Tx,(hF.po q Tx).mD.2 ⟨h2,h1⟩,h3⟩,rfl⟩
 · intro v hv;obtain⟨p,hp,rfl⟩:=Bf.1 hv;obtain⟨q,hq,h1,h2⟩:=(ZU p).1 hp;obtain⟨b1,b2⟩:=YF q hq _ _ h1
   have hg:∀k,k<l.length->bM (2^18) (l.getD k V0):=fun k hk=>by have :l.getD k V0=l[k]:=(by simp[List.getD,hk]);rw[this];exact hn _ (Ai hk)
   exact fM (hg _ b2) (hg _ b1)
 · rw[<-hE',Ad];exact WU
 · intro e;rw[<-hE',Ee] at e;exact hE0 e
 · intro p hp;obtain⟨q,hq,h1,h2⟩:=(ZU p).1 hp;exact YF q hq _ _ h1
 rw[<-Tt];exact p3
theorem Tg {ta tb:Nat} (wz:Nat.blt ta 2=true) (xc:Nat.blt tb 2=true) {a b:List aG.V} (ha:oX a=0) (hb:oX b=0) (H:aA):
 Sg 32 [.agg [.aV ta 3 (bF a)],.agg [.aV tb 3 (bF b)]] H (.ret (.bool (lX a b))) H:=by
 obtain⟨U,lU,mU,nU,fa,ea⟩:=SS wz ha;obtain⟨W,lW,mW,nW,fb,eb⟩:=SS xc hb;obtain⟨sa,_,ha1,ha2,ha3,ha4,na⟩:=vW ha;obtain⟨sb,_,tR,AL,hb3,hb4,nb⟩:=vW hb;have hFa:=nO sa;have hFb:=nO sb
 have uG:∀n,n∈jT (iJ a) (iJ b) U W↔IsD a b n:=fun n=>by
  have m1:∀(l:List aG.V) (hs:l.Pairwise gW),n∈(iJ l).map (·.1)↔∃d,qD (fun i=>l.getD i V0) l.length n d:=fun l hs=>by
   rw[Bf];constructor
   · rintro⟨q,hq,rfl⟩;exact⟨q.2,((tP l).mem q).1 hq⟩
   rintro⟨d,hd⟩;exact⟨(n,d),((tP l).mem (n,d)).2 hd,rfl⟩
  have m2:n∈LQ U W↔∃u w,IsE a u/\IsE b w/\n=aG.aT u w/\n≠V0:=by
   simp only[LQ,En,Hi];constructor
   · rintro⟨u,hu,w,hw,h⟩;split at h
     · cases h
     rename_i hc;obtain rfl:=Aa h;exact⟨u,w,(mU u).1 hu,(mW w).1 hw,rfl,hc⟩
   rintro⟨u,w,hu,hw,rfl,hn⟩;exact⟨u,(mU u).2 hu,w,(mW w).2 hw,by rw[if_neg hn]⟩
  unfold jT IsD;rw[Ch,As,As,m1 a sa,m1 b sb,m2,or_assoc]
 have xJ:lX a b=(jT (iJ a) (iJ b) U W).any (oF a b):=by rw[Du,Cz];rw[pM];exact exists_congr fun n=>and_congr_left' (uG n).symm
 rw[xJ];refine VY wz xc na nb (Ak _) (by omega) (by omega) ha4 hb4 (MU:=2^19) (by decide) fa fb ea eb nU nW ha2 AL tR lU lW (B:=2*(2^19*2^19)) (fun n hn=>?_) (by decide) H
 rcases(uG n).1 hn with ⟨d,h⟩|⟨d,h⟩|⟨u,w,hu,hw,rfl,_⟩
 · exact qQ (q:=(n,d)) na h
 · exact qQ (q:=(n,d)) nb h
 exact jX (nU u ((mU u).2 hu)) (nW w ((mW w).2 hw))
def plX (l:List aG.V) (q:aG.V×Int):List Nat:=aDi (jP (fun i=>l.getD i V0) l.length q.1 q.2) (vB q.1 (fun i=>l.getD i V0) (jP (fun i=>l.getD i V0) l.length q.1 q.2))
theorem Tj {l:List aG.V} (hl:l.Pairwise gW) {q:aG.V×Int} (hq:q∈iJ l):mV l q=plX l q:=aIz ((nO hl).po q hq)
theorem Tk {l:List aG.V} {S:List (aG.V×Int)} (h:NK (fun i=>l.getD i V0) l.length S=true):iJ l=S:=(tP l).uniq (yP h)
theorem Xo {S:List (aG.V×Int)} {L L':aG.V×Int->List Nat} (h:∀q∈S,L q=L' q) (k:Nat):gG S L k=gG S L' k:=by
 unfold gG;rw[Du,Cz,Cz];constructor
 · rintro⟨q,hq,hk⟩;exact⟨q,hq,by rw[<-h q hq];exact hk⟩
 rintro⟨q,hq,hk⟩;exact⟨q,hq,by rw[h q hq];exact hk⟩
theorem Yg (l C:List aG.V) {S:List (aG.V×Int)} {L L':aG.V×Int->List Nat} (h:∀q∈S,L q=L' q):OS l C S L=OS l C S L':=by
 have hL:gQ C S L=gQ C S L':=by unfold gQ;rw[show gG S L=gG S L' from funext (Xo h)]
 have hO:iD l C S L=iD l C S L':=by unfold iD;rw[hL]
 unfold OS;rw[hO,hL]
def QU:List aG.V->Bool
 |[]=>true
 |v::r=>(r.all fun x=>ltV v x)&&QU r
theorem KK:∀{l:List aG.V},QU l=true->l.Pairwise gW
 |[],_=>.nil
 |q::r,h=>by simp only[QU,Am,Ba] at h;exact Cr.2 ⟨fun x hx=>iu.1 (h.1 x hx),KK h.2⟩
theorem Tb {l:List aG.V} {S:List (aG.V×Int)} (hl:QU l=true) (h:NK (fun i=>l.getD i V0) l.length S=true):oX l=OS l l S (plX l):=by have hs:=KK hl;unfold oX;rw[Ps hs,Yg l l (S:=iJ l) fun q hq=>Tj hs hq,Tk h]
theorem aAn {l:List aG.V} {S:List (aG.V×Int)} (hl:QU l=true) (h:NK (fun i=>l.getD i V0) l.length S=true):wS l S (plX l) where
 fl:=yP h
 po q hq:=by
  have Tx:q∈iJ l:=by rw[Tk h];exact hq
  have :=(nO (KK hl)).po q Tx
  rwa [Tj (KK hl) Tx] at this
def edX (l:List aG.V) (S:List (aG.V×Int)):List aG.V:=(HG S (plX l)).map fun x=>aG.sub (l.getD x.2.toNat V0) (l.getD x.1.toNat V0)
theorem Rp {L L':aG.V×Int->List Nat}:∀{S:List (aG.V×Int)},(∀q∈S,L q=L' q)->HG S L=HG S L'
 |[],_=>rfl
 |q::S,h=>by have ih:=Rp (S:=S) fun x hx=>h x (Aw _ hx);unfold HG at ih ⊢;rw[Cl,Cl,ih,h q Au]
theorem Nf {l:List aG.V} {S:List (aG.V×Int)} (hl:QU l=true) (h:NK (fun i=>l.getD i V0) l.length S=true) {v:aG.V}:IsE l v↔v∈edX l S:=by
 have hs:=KK hl;have hF:=nO hs;have hS:=Tk h;have he:HG S (plX l)=HG (iJ l) (mV l):=by rw[hS];exact(Rp fun q hq=>Tj hs (by rw[hS];exact hq)).symm
 unfold edX;rw[he,Bf];constructor
 · rintro⟨q,hq,a,b,h1,h2,h3,rfl⟩;have Tx:=(hF.fl.mem q).2 hq;exact⟨pN (a,b),(zA hF).2 ⟨q,Tx,a,b,(hF.po q Tx).mD.2 ⟨h2,h1⟩,h3,rfl⟩,by simp[pN]⟩
 rintro⟨x,hx,rfl⟩;obtain⟨q,hq,a,b,h1,h2,rfl⟩:=(zA hF).1 hx;have h3:=(hF.po q hq).mD.1 h1;exact⟨q,(hF.fl.mem q).1 hq,a,b,h3.2,h3.1,h2,by simp[pN]⟩
theorem Tf {a b:List aG.V} {S T:List (aG.V×Int)} (ha:QU a=true) (hb:QU b=true) (hS:NK (fun i=>a.getD i V0) a.length S=true) (hT:NK (fun i=>b.getD i V0) b.length T=true):
 lX a b=(jT S T (edX a S) (edX b T)).any (oF a b):=by
 have uG:∀n,n∈jT S T (edX a S) (edX b T)↔IsD a b n:=fun n=>by
  have m1:∀(l:List aG.V) (S:List (aG.V×Int)),NK (fun i=>l.getD i V0) l.length S=true->(n∈S.map (·.1)↔∃d,qD (fun i=>l.getD i V0) l.length n d):=fun l S h=>by
   have hf:=yP h;rw[Bf];constructor
   · rintro⟨q,hq,rfl⟩;exact⟨q.2,(hf.mem q).1 hq⟩
   rintro⟨d,hd⟩;exact⟨(n,d),(hf.mem (n,d)).2 hd,rfl⟩
  have m2:n∈LQ (edX a S) (edX b T)↔∃u w,IsE a u/\IsE b w/\n=aG.aT u w/\n≠V0:=by
   simp only[LQ,En,Hi];constructor
   · rintro⟨u,hu,w,hw,h⟩;split at h
     · cases h
     rename_i hc;obtain rfl:=Aa h;exact⟨u,w,(Nf ha hS).2 hu,(Nf hb hT).2 hw,rfl,hc⟩
   rintro⟨u,w,hu,hw,rfl,hn⟩;exact⟨u,(Nf ha hS).1 hu,w,(Nf hb hT).1 hw,by rw[if_neg hn]⟩
  unfold jT IsD;rw[Ch,As,As,m1 a S hS,m1 b T hT,m2,or_assoc]
 rw[Du,Cz,pM];exact exists_congr fun n=>and_congr_left' (uG n).symm
def eE (o:Int) (p:Int):List aG.V:=[⟨o,p,p⟩,⟨o,p,p+2⟩,⟨o,p+2,p⟩,⟨o,p+2,p+2⟩,⟨o+2,p,p⟩,⟨o+2,p,p+2⟩,⟨o+2,p+2,p⟩,⟨o+2,p+2,p+2⟩]
def Vw (o:Int) (p:Int):List (aG.V×Int):=[(⟨-1,0,0⟩,-o),(⟨0,-1,0⟩,-p),(⟨0,0,-1⟩,-p),(⟨0,0,1⟩,p+2),(⟨0,1,0⟩,p+2),(⟨1,0,0⟩,o+2)]
theorem CZ:NK (fun i=>(eE 0 0).getD i V0) (eE 0 0).length (Vw 0 0)=true:=by decide+kernel
theorem du:NK (fun i=>(eE 1 1).getD i V0) (eE 1 1).length (Vw 1 1)=true:=by decide+kernel
theorem dw:NK (fun i=>(eE 2 0).getD i V0) (eE 2 0).length (Vw 2 0)=true:=by decide+kernel
theorem DA:QU (eE 0 0)=true:=by decide+kernel
theorem dv:QU (eE 1 1)=true:=by decide+kernel
theorem ec:QU (eE 2 0)=true:=by decide+kernel
theorem DB:oX (eE 0 0)=0:=by rw[Tb DA CZ];decide+kernel
theorem mz:oX (eE 1 1)=0:=by rw[Tb dv du];decide+kernel
theorem nc:oX (eE 2 0)=0:=by rw[Tb ec dw];decide+kernel
theorem Yr:lX (eE 0 0) (eE 0 0)=false:=by rw[Tf DA DA CZ CZ];decide+kernel
theorem Ys:lX (eE 0 0) (eE 1 1)=false:=by rw[Tf DA dv CZ du];decide+kernel
theorem Yt:lX (eE 0 0) (eE 2 0)=true:=by rw[Tf DA ec CZ dw];decide+kernel
attribute [local congr] aU aO aP aN aY aR aQ aI aZ
attribute [local irreducible] FC bL eU
def mP (p:AV×List aG.V):Prop:=(p.1=.aS/\p.2=[])\/p.1=.aV 0 3 (bF p.2)
def jF (ps:List (AV×List aG.V)):List (List AV):=ps.map fun p=>[p.1]
def vU (pv:AV) (ps:List (AV×List aG.V)):Prop:=(pv=.aS/\ps=[])\/pv=.aV 0 1 (jF ps)
theorem mP.free {p:AV×List aG.V} (h:mP p):p.1.free=true:=by
 rcases h with ⟨h,_⟩|h
 · rw[h];rfl
 rw[h];exact cE rfl _
theorem CG {ps:List (AV×List aG.V)} (h:∀p∈ps,mP p):dJ (jF ps)=true:=by
 induction ps with
 |nil=>simp only[jF,Iw,dJ]
 |cons p ps ih=>have h1:=(h p Au).free;have h2:=ih fun x hx=>h x (Aw _ hx);simp only[jF] at h2;simp only[jF,By,dJ,bU,h1,h2,Ds]
theorem vU.free {pv:AV} {ps:List (AV×List aG.V)} (h:vU pv ps) (hp:∀p∈ps,mP p):pv.free=true:=by
 rcases h with ⟨h,_⟩|h
 · rw[h];rfl
 rw[h];simp only[AV.free,CG hp];rfl
def wA (v:aG.V):Bool:=(decide (v.x>4096)||decide (v.x< -4096))||((decide (v.y>4096)||decide (v.y< -4096))||(decide (v.z>4096)||decide (v.z< -4096)))
noncomputable def fA (l:List aG.V):Int:=if oX l≠0 then oX l else if l.any wA then 1 else 0
def TZ (m0 m1 r0 r1:Int):Bool:=decide (m0<1)||(decide (m1<m0)||(decide (m1>1099511627776)||(decide (r0<0)||(decide (r1<r0)||decide (r1>4000)))))
noncomputable def Mw (ps:List (List aG.V)):Bool:=(List.range ps.length).any fun i=>(List.range i).any fun k=> !lX (ps.getD i []) (ps.getD k [])
noncomputable def uP (ps:List (List aG.V)):Int:=match ps.find? fun l=> !decide (fA l=0) with
 |some l=>fA l
 |none=>if Mw ps then 150 else 0
noncomputable def kS (name:List UInt8) (ps:List (List aG.V)) (m0 m1 r0 r1:Int):Int:=
 if mJ name=false then 5 else if ps.length<1\/8<ps.length then 2 else if TZ m0 m1 r0 r1=true then 1 else uP ps
theorem QE {ls:List (List aG.V)} {i:Nat} (hi:i<ls.length) (h:∀j (hj:j<i),fA (ls[j]'(Cg hj hi))=0) (he:fA ls[i]≠0):uP ls=fA ls[i]:=by
 have :ls.find? (fun l=> !decide (fA l=0))=some ls[i]:=by rw[List.find?_eq_some_iff_getElem];exact⟨by simp[he],i,hi,rfl,fun j hj=>by simp[h j hj]⟩
 unfold uP;rw[this]
theorem zO {ls:List (List aG.V)} (h:∀l∈ls,fA l=0):uP ls=if Mw ls then 150 else 0:=by
 have :ls.find? (fun l=> !decide (fA l=0))=none:=by rw[Io];exact fun l hl=>by simp[h l hl]
 unfold uP;rw[this]
theorem Uc {l:List aG.V} (h:fA l=0):oX l=0/\∀v∈l,wA v=false:=by
 unfold fA at h;split at h
 · rename_i h1;exact absurd h h1
 rename_i h1;split at h
 · cases h
 rename_i h2
 exact⟨Decidable.not_not.1 h1,fun v hv=>by
  cases hf:wA v with
  |false=>rfl
  |true=>exact absurd (Cz.2 ⟨v,hv,hf⟩) h2⟩
theorem GO {ls:List (List aG.V)} {i k:Nat} (hi:i<ls.length) (hk:k<i) (h:lX ls[i] (ls[k]'(Cg hk hi))=false):Mw ls=true:=by unfold Mw;rw[Cz];refine⟨i,Bi.2 hi,?_⟩;rw[Cz];refine⟨k,Bi.2 hk,?_⟩;have rS:=Cg hk hi;simp only[List.getD,Ab hi,Ab rS,Bc,h,Fv]
theorem CC {ls:List (List aG.V)} (h:∀i k (hi:i<ls.length) (hk:k<i),lX ls[i] (ls[k]'(Cg hk hi))=true):Mw ls=false:=by unfold Mw;rw[Fo];intro i hi;rw[Bi] at hi;simp only[Gg];rw[Fo];intro k hk;rw[Bi] at hk;have rS:=Cg hk hi;simp only[List.getD,Ab hi,Ab rS,Bc,h i k hi hk];decide
theorem RP {p:AV×List aG.V} (h:mP p) (hlen:p.2.length<2^30) (H:aA):Sg 40 [.agg [p.1]] H (.ret (.int .i64 (oX p.2))) H:=by
 rcases h with ⟨h1,h2⟩|h1
 · rw[h1,h2,IE];exact RQ H
 rw[h1];exact UB rfl hlen (xY _) (nO (xY _).TD) H
def bX (name:List UInt8) (pv:AV) (m0 m1 r0 r1:Int):List AV:=[.str name,pv,.int .i64 m0,.int .i64 m1,.int .i64 r0,.int .i64 r1]
theorem KW {name:List UInt8} (mC:name.length<2^63) {ps:List (AV×List aG.V)} (oZ:∀p∈ps,mP p) (hlen:∀p∈ps,p.2.length<2^30) (nP:ps.length<2^30) (m0 m1 r0 r1:Int) (H:aA):
 Sg 14 [.agg (bX name (.aV 0 1 (jF ps)) m0 m1 r0 r1)] H (.ret (.int .i64 (kS name (ps.map (·.2)) m0 m1 r0 r1))) H:=by
 have DI:bU [AV.agg (bX name (.aV 0 1 (jF ps)) m0 m1 r0 r1)]=true:=by simp only[sf,bX,CG oZ]
 refine So aYl DI ?_ H;have wO:(ps.map (·.2)).length=ps.length:=Ad _;unfold W14;dsimp only;have GG:(jF ps).length=ps.length:=Ad _;have d1:decide ((ps.length:Int)<1)=decide (ps.length<1):=by rw[Az];omega
 have d2:decide ((ps.length:Int)>8)=decide (8<ps.length):=by rw[Az];omega
 refine bS ?_;simp only[↓zP,zJ,seval,bX];refine bT ?_;refine aJ fun K hK=>?_;refine aH ?_;refine aJ fun K2 cK=>?_;simp only[↓zP,zJ,seval];have qc:=Xr name mC
 cases hv:mJ name with
 |false=>rw[hv] at qc;refine bK (qc _) ?_;simp only[↓zP,zJ,seval];apply cK;clear cK K2;simp only[↓zP,zG,seval];refine Rx ?_;unfold kS;rw[if_pos hv];rfl
 |true=>
 rw[hv] at qc;refine bK (qc _) ?_;simp only[↓zP,zJ,seval];apply cK;clear cK K2;refine CU false (by simp only[zB,seval]) (fun h=>by cases h) (fun _=>?_);refine aJ fun K2 cK=>?_
 cases h1:decide (ps.length<1) with
 |true=>rw[h1] at d1;simp only[↓zP,zJ,seval,GG,d1];apply cK;clear cK K2;simp only[↓zP,zG,seval];refine Rx ?_;unfold kS;rw[if_neg (by rw[hv];decide),if_pos (.inl (by rw[wO];exact Ea h1))];rfl
 |false=>
 rw[h1] at d1
 cases h2:decide (8<ps.length) with
 |true=>rw[h2] at d2;simp only[↓zP,zJ,seval,GG,d1,d2];apply cK;clear cK K2;simp only[↓zP,zG,seval];refine Rx ?_;unfold kS;rw[if_neg (by rw[hv];decide),if_pos (.inr (by rw[wO];exact Ea h2))];rfl
 |false=>
 rw[h2] at d2
 have IT:TZ m0 m1 r0 r1=true->kS name (ps.map (·.2)) m0 m1 r0 r1=1:=fun hb=>by unfold kS;rw[if_neg (by rw[hv];decide),if_neg (by rw[wO];intro h;rcases h with h|h;exact Ek h1 h;exact Ek h2 h),if_pos hb]
 have hB0:TZ m0 m1 r0 r1=false->kS name (ps.map (·.2)) m0 m1 r0 r1=uP (ps.map (·.2)):=fun hb=>by unfold kS;rw[if_neg (by rw[hv];decide),if_neg (by rw[wO];intro h;rcases h with h|h;exact Ek h1 h;exact Ek h2 h),if_neg (by rw[hb];decide)]
 unfold TZ at IT hB0
 have key:∀f':cU,kS name (ps.map (·.2)) m0 m1 r0 r1=(uP (ps.map (·.2)))->f' 1=.ref 0 0->K f' [] ((⟨0,.nil⟩:aA).alloc (.cells [.str name,.aV 0 1 (jF ps),.int .i64 m0,.int .i64 m1,.int .i64 r0,.int .i64 r1] false)):=by
  intro f' xJ f1;rw[xJ] at hK;apply hK;clear hK cK K2 K IT hB0
  have hF:∀i (hi:i<ps.length),(∀j (hj:j<i),fA (ps[j]'(Cg hj hi)).2=0)->fA ps[i].2≠0->uP (ps.map (·.2))=fA ps[i].2:=fun i hi h1 h2=>by have :=QE (ls:=ps.map (·.2)) (i:=i) (by rw[wO];exact hi) (fun j hj=>by rw[Co];exact h1 j hj) (by rw[Co];exact h2);rw[this,Co]
  simp only[↓zP,zJ,seval,f1,GG];refine bQ [] (fun i vs H'=>(∀j (hj:j<i) (hl:j<ps.length),fA ps[j].2=0)/\H'.get 0=some (.cells [.str name,.aV 0 1 (jF ps),.int .i64 m0,.int .i64 m1,.int .i64 r0,.int .i64 r1] false)/\1<=H'.next) ps.length (by omega) (by decide) ?_ ?_ ?_ ?_ ?_
  · simp only[zB,seval]
  · simp only[zB,seval]
  · exact⟨fun j hj=>absurd hj (Ax _),by simp only[zI,seval],by simp only[zI,seval]⟩
  · rintro i f H1 hi hk e1 ⟨hJ,g0,hn⟩;have hg:(jF ps).getD i []=[ps[i].1]:=dT hi;have hp:=oZ _ (Ai hi);have hl:=hlen _ (Ai hi);have hFi:=hF i hi (fun j hj=>hJ j hj (Cg hj hi))
    have ou:fA ps[i].2=0->∀j (hj:j<i+1) (hl:j<ps.length),fA ps[j].2=0:=fun h j hj hl=>by
     by_cases e:j=i
     · subst e;exact h
     exact hJ j (by omega) hl
    generalize ps[i]=p at *;obtain⟨pv,l⟩:=p;simp only at hg hp hl hFi ou;have hc:=RP hp hl;simp only at hc;have UR:¬(0=H1.next):=(by omega);refine aH ?_;refine bS ?_;simp only[↓zP,zJ,seval,e1,hk 70 rfl,aB,GG,hi,hg];refine bT ?_;refine aJ fun K2 cK=>?_;simp only[↓zP,zJ,seval];refine bK (hc _) ?_;by_cases he:oX l=0
    · have hb:(oX l != 0)=false:=(by simp[he]);obtain⟨_,_,_,_,_,NN,aWw⟩:=vW he
      obtain⟨rfl⟩:pv=.aV 0 3 (bF l):=by
       rcases hp with ⟨_,h⟩|h
       · exact absurd h NN
       exact h
      have aSe:l.any wA=false->fA l=0:=fun h=>by unfold fA;rw[if_neg (by simp[he]),h];rfl
      have Tw:l.any wA=true->fA l=1:=fun h=>by unfold fA;rw[if_neg (by simp[he]),h];rfl
      simp only[↓zP,zG,seval,hb];apply cK;clear cK K2;simp only[↓zP,zJ,seval,aL];generalize hX:(H1.alloc _).set H1.next _=H4;have y0:H4.get 0=some (.cells [.str name,.aV 0 1 (jF ps),.int .i64 m0,.int .i64 m1,.int .i64 r0,.int .i64 r1] false):=(by subst hX;rw[aA.aC,if_neg UR,aA.aF,if_neg UR];exact g0);have yn:1<=H4.next:=(by subst hX;simp only[aA.aX,aA.bJ];omega);clear hX;refine bQ [] (fun j vs H'=>(∀k (hk:k<j) (hl:k<l.length),wA l[k]=false)/\H'.get 0=some (.cells [.str name,.aV 0 1 (jF ps),.int .i64 m0,.int .i64 m1,.int .i64 r0,.int .i64 r1] false)/\1<=H'.next) l.length (by omega) (by decide) ?_ ?_ ?_ ?_ ?_
      · simp only[zB,seval]
      · simp only[zB,seval]
      · exact⟨fun k hk=>absurd hk (Ax _),y0,yn⟩
      · rintro j f2 H2 hj dA e2 ⟨hJ2,g02,DK⟩;have hgv:=bY hj
        have aAw:wA l[j]=false->∀k (hk:k<j+1) (hl:k<l.length),wA l[k]=false:=fun h k hk hl=>by
         by_cases e:k=j
         · subst e;exact h
         exact hJ2 k (by omega) hl
        have AD:wA l[j]=true->l.any wA=true:=fun h=>Cz.2 ⟨l[j],Ai hj,h⟩;generalize l[j]=v at *;have xf:¬(0=H2.next):=(by omega);have v0:(bZ v).getD 0 aD=.int .i64 v.x:=rfl;have v1:(bZ v).getD 1 aD=.int .i64 v.y:=rfl;have v2:(bZ v).getD 2 aD=.int .i64 v.z:=rfl;have w0:=ZE v.x 4096 (by decide);have w1:=ZE v.y 4096 (by decide);have w2:=ZE v.z 4096 (by decide);rw[show(-4096:Int)= -(4096) from rfl] at *;unfold wA at aAw AD;refine aH ?_;refine bS ?_;simp only[↓zP,zJ,seval,e2,dA 82 rfl,aB,aL,hj,hgv,oL (aM v)];refine bT ?_;refine aJ fun K2 cK=>?_;simp only[↓zP,zJ,seval,jI,v0,aM];refine bK (w0 _) ?_
        cases c0:(decide (v.x>4096)||decide (v.x< -4096)) with
        |true=>rw[c0] at AD;simp only[↓zP,zG,seval];apply cK;clear cK K2;simp only[↓zP,zG,seval];refine Rx ?_;rw[hFi (by rw[Tw (AD rfl)];decide),Tw (AD rfl)];rfl
        |false=>
        rw[c0] at AD aAw;simp only[↓zP,zJ,seval,jI,v1,aM];refine bK (w1 _) ?_
        cases c1:(decide (v.y>4096)||decide (v.y< -4096)) with
        |true=>rw[c1] at AD;simp only[↓zP,zG,seval];apply cK;clear cK K2;simp only[↓zP,zG,seval];refine Rx ?_;rw[hFi (by rw[Tw (AD rfl)];decide),Tw (AD rfl)];rfl
        |false=>
        rw[c1] at AD aAw;simp only[↓zP,zJ,seval,jI,v2,aM];refine bK (w2 _) ?_
        cases c2:(decide (v.z>4096)||decide (v.z< -4096)) with
        |true=>rw[c2] at AD;simp only[↓zP,zG,seval];apply cK;clear cK K2;simp only[↓zP,zG,seval];refine Rx ?_;rw[hFi (by rw[Tw (AD rfl)];decide),Tw (AD rfl)];rfl
        |false=>
        rw[c2] at aAw;simp only[↓zP,zG,seval];apply cK;clear cK K2;simp only[↓zP,zJ,seval];exact⟨aAw rfl,by rw[if_neg xf,if_neg xf];exact g02,trivial⟩
      rintro f2 H2 dA ⟨hJ2,g02,DK⟩
      have :l.any wA=false:=by rw[Fo];intro v hv;obtain⟨k,hk,rfl⟩:=Cv hv;rw[hJ2 k hk hk];decide
      simp only[↓zP,seval];exact⟨ou (aSe this),g02,DK⟩
    have hb:(oX l != 0)=true:=(by simp[he]);have hpc:fA l=oX l:=(by unfold fA;rw[if_pos he]);simp only[↓zP,zG,seval,hb];refine Rx ?_;rw[hFi (by rw[hpc];exact he),hpc];rfl
  rintro f H1 hk ⟨hJ,g0,hn⟩;have dB:∀j (hl:j<ps.length),fA ps[j].2=0:=fun j hl=>hJ j hl hl
  have hR:=zO (ls:=ps.map (·.2)) (fun l hl=>by
   obtain⟨p,hp,rfl⟩:=Bf.1 hl;obtain⟨j,hj,rfl⟩:=Cv hp
   exact dB j hj)
  have PF:∀j (hl:j<ps.length),oX ps[j].2=0/\ps[j].1=.aV 0 3 (bF ps[j].2):=fun j hl=>by
   have h0:=(Uc (dB j hl)).1;refine⟨h0,?_⟩
   rcases oZ _ (Ai hl) with ⟨_,h⟩|h
   · rw[h,IE] at h0;cases h0
   exact h
  have f1':f 1=.ref 0 0:=by rw[hk 1 rfl];simp only[zB,seval];exact f1
  simp only[↓zP,zJ,seval,f1',g0,GG];refine bQ [] (fun i vs H'=>(∀a k (ha:a<i) (hl:a<ps.length) (hk:k<a),lX ps[a].2 (ps[k]'(Cg hk hl)).2=true)/\H'.get 0=some (.cells [.str name,.aV 0 1 (jF ps),.int .i64 m0,.int .i64 m1,.int .i64 r0,.int .i64 r1] false)/\1<=H'.next) ps.length (by omega) (by decide) ?_ ?_ ?_ ?_ ?_
  · simp only[zB,seval]
  · simp only[zB,seval]
  · exact⟨fun a k ha=>absurd ha (Ax _),g0,hn⟩
  · rintro i f2 H2 hi dA e2 ⟨hJ2,g02,DK⟩;have hg:(jF ps).getD i []=[ps[i].1]:=dT hi;obtain⟨sR,nJ⟩:=PF i hi
    have ou:(∀k (hk:k<i),lX ps[i].2 (ps[k]'(Cg hk hi)).2=true)->∀a k (ha:a<i+1) (hl:a<ps.length) (hk:k<a),lX ps[a].2 (ps[k]'(Cg hk hl)).2=true:=fun h a k ha hl hk=>by
     by_cases e:a=i
     · subst e;exact h k hk
     exact hJ2 a k (by omega) hl hk
    have hov:∀k (hk:k<i),lX ps[i].2 (ps[k]'(Cg hk hi)).2=false->uP (ps.map (·.2))=150:=fun k hk h=>by have :=GO (ls:=ps.map (·.2)) (i:=i) (k:=k) (by rw[wO];exact hi) hk (by rw[Co,Co];exact h);rw[hR,this];rfl
    have f21:f2 1=.ref 0 0:=(by rw[dA 1 rfl];simp only[zB,seval];exact f1');have xf:¬(0=H2.next):=(by omega);have sH:(jF ps).take i=jF (ps.take i):=by simp[jF]
    have Mk:iY 1 (.aV 0 1 (jF ps)) none (some i) none=some (.aV 0 1 (jF (ps.take i))):=by simp only[iY,Dg,Bc];rw[if_pos ⟨trivial,Bb _,by rw[GG];omega⟩,if_neg (by rw[GG];omega),Cy,Ie,sH]
    have YG:(jF (ps.take i)).length=i:=(by simp[jF];omega);rw[nJ] at hg;refine aH ?_;refine bS ?_;simp only[↓zP,zJ,seval,e2,dA 104 rfl,aB,GG,hi,hg];refine bT ?_;simp only[↓zP,zJ,seval,f21,xf,g02,cZ,aB,Mk,Bu,Bd,YG];generalize hX:(H2.alloc _).set H2.next _=H4;have y0:H4.get 0=some (.cells [.str name,.aV 0 1 (jF ps),.int .i64 m0,.int .i64 m1,.int .i64 r0,.int .i64 r1] false):=(by subst hX;rw[aA.aC,if_neg xf,aA.aF,if_neg xf];exact g02);have yn:H2.next<H4.next:=(by subst hX;simp);have y9:H4.get H2.next=some (.cells [.aV 0 3 (bF ps[i].2)] false):=(by subst hX;rw[aA.aC,if_pos rfl]);clear hX;refine bQ [] (fun k vs H'=>(∀a (ha:a<k) (hl:a<i),lX ps[i].2 (ps[a]'(Cg hl hi)).2=true)/\H'.get 0=some (.cells [.str name,.aV 0 1 (jF ps),.int .i64 m0,.int .i64 m1,.int .i64 r0,.int .i64 r1] false)/\H2.next<H'.next/\H'.get H2.next=some (.cells [.aV 0 3 (bF ps[i].2)] false)) i (by omega) (by decide) ?_ ?_ ?_ ?_ ?_
    · simp only[zB,seval]
    · simp only[zB,seval]
    · exact⟨fun a ha=>absurd ha (Ax _),y0,yn,y9⟩
    · rintro k f3 H3 ZS kR e3 ⟨hJ3,g03,RL,g93⟩;have yG:=Cg ZS hi;obtain⟨Nd,uY⟩:=PF k yG
      have WX:(jF (ps.take i)).getD k []=[ps[k].1]:=by have h1:k<(ps.take i).length:=(by simp;omega);have :(jF (ps.take i)).getD k []=[(ps.take i)[k].1]:=dT h1;rw[this,List.getElem_take]
      rw[uY] at WX;have hd:=Tg (ta:=0) (tb:=0) rfl rfl sR Nd
      have aRi:lX ps[i].2 ps[k].2=true->∀a (ha:a<k+1) (hl:a<i),lX ps[i].2 (ps[a]'(Cg hl hi)).2=true:=fun h a ha hl=>by
       by_cases e:a=k
       · subst e;exact h
       exact hJ3 a (by omega) hl
      have aSc:=hov k ZS;generalize ps[k]=q at *;generalize bFt:ps[i]=p at *;have nx3:¬(0=H3.next):=(by omega);have nx9:¬(H2.next=H3.next):=(by omega);refine aH ?_;refine bS ?_;simp only[↓zP,zJ,seval,e3,kR 114 rfl,aB,YG,ZS,WX];refine bT ?_;refine aJ fun K2 cK=>?_;simp only[↓zP,zJ,seval,kR 9 rfl,nx9,g93];refine bK (hd _) ?_
      cases hdb:lX p.2 q.2 with
      |true=>simp only[↓zP,zJ,seval];apply cK;clear cK K2;simp only[↓zP,zJ,seval];exact⟨aRi hdb,by rw[if_neg nx3,if_neg nx3];exact g03,by omega,by rw[if_neg nx9,if_neg nx9];exact g93⟩
      |false=>simp only[↓zP,zJ,seval];apply cK;clear cK K2;simp only[↓zP,zG,seval];refine Rx ?_;rw[aSc hdb];rfl
    rintro f3 H3 kR ⟨hJ3,g03,RL,g93⟩;simp only[↓zP,seval];exact⟨ou fun k hk=>hJ3 k hk hk,g03,by omega⟩
  rintro f2 H2 dA ⟨hJ2,g02,DK⟩
  have :=CC (ls:=ps.map (·.2)) (fun a k ha hk=>by
   rw[Co,Co]
   exact hJ2 a k (by rwa [wO] at ha) (by rwa [wO] at ha) hk)
  simp only[↓zP,seval];refine Rx ?_;rw[hR,this];rfl
 clear hK;simp only[↓zP,zJ,seval,GG,d1,d2];apply cK;clear cK K2;refine CU false (by simp only[zB,seval]) (fun h=>by cases h) (fun _=>?_);refine tC fun f hf=>?_;have f1:f 1=.ref 0 0:=by subst hf;simp only[zB,seval]
 clear hf
 cases g1:decide (m0<1) with
 |true=>rw[g1] at IT;simp only[↓zP,zJ,seval,f1,jI,g1];refine Rx ?_;rw[IT (by simp)];rfl
 |false=>
 cases g2:decide (m1<m0) with
 |true=>rw[g2] at IT;simp only[↓zP,zJ,seval,f1,jI,g1,g2];refine Rx ?_;rw[IT (by simp)];rfl
 |false=>
 cases g3:decide (m1>1099511627776) with
 |true=>rw[g3] at IT;simp only[↓zP,zJ,seval,f1,jI,g1,g2,g3];refine Rx ?_;rw[IT (by simp)];rfl
 |false=>
 cases g4:decide (r0<0) with
 |true=>rw[g4] at IT;simp only[↓zP,zJ,seval,f1,jI,g1,g2,g3,g4];refine Rx ?_;rw[IT (by simp)];rfl
 |false=>
 cases g5:decide (r1<r0) with
 |true=>rw[g5] at IT;simp only[↓zP,zJ,seval,f1,jI,g1,g2,g3,g4,g5];refine Rx ?_;rw[IT (by simp)];rfl
 |false=>
 cases g6:decide (r1>4000) with
 |true=>rw[g6] at IT;simp only[↓zP,zJ,seval,f1,jI,g1,g2,g3,g4,g5,g6];refine Rx ?_;rw[IT (by simp)];rfl
 |false=>rw[g1,g2,g3,g4,g5,g6] at hB0;simp only[↓zP,zJ,seval,f1,jI,g1,g2,g3,g4,g5,g6];exact key _ (hB0 rfl) (by simp only[zB,seval];exact f1)
theorem ki {name:List UInt8} (mC:name.length<2^63) (m0 m1 r0 r1:Int) (H:aA):
 Sg 14 [.agg (bX name .aS m0 m1 r0 r1)] H (.ret (.int .i64 (kS name [] m0 m1 r0 r1))) H:=by
 refine So aYl (by simp only[sf,bX]) ?_ H;unfold W14;dsimp only;refine bS ?_;simp only[↓zP,zJ,seval,bX];refine bT ?_;refine aJ fun K hK=>?_;refine aH ?_;refine aJ fun K2 cK=>?_;simp only[↓zP,zJ,seval];have qc:=Xr name mC;have d1:decide ((0:Int)<1)=true:=rfl
 cases hv:mJ name with
 |false=>rw[hv] at qc;refine bK (qc _) ?_;simp only[↓zP,zJ,seval];apply cK;clear cK K2;simp only[↓zP,zG,seval];refine Rx ?_;unfold kS;rw[if_pos hv];rfl
 |true=>rw[hv] at qc;refine bK (qc _) ?_;simp only[↓zP,zJ,seval];apply cK;clear cK K2;refine CU false (by simp only[zB,seval]) (fun h=>by cases h) (fun _=>?_);refine bS ?_;simp only[↓zP,zJ,seval,Gp];refine bT ?_;simp only[↓zP,zG,seval];refine Rx ?_;unfold kS;rw[if_neg (by rw[hv];decide),if_pos (.inl (by decide))];rfl
theorem xl {name:List UInt8} (mC:name.length<2^63) {pv:AV} {ps:List (AV×List aG.V)} (JB:vU pv ps) (oZ:∀p∈ps,mP p) (hlen:∀p∈ps,p.2.length<2^30) (nP:ps.length<2^30) (m0 m1 r0 r1:Int) (H:aA):
 Sg 14 [.agg (bX name pv m0 m1 r0 r1)] H (.ret (.int .i64 (kS name (ps.map (·.2)) m0 m1 r0 r1))) H:=by
 rcases JB with ⟨h1,h2⟩|h1
 · rw[h1,h2];exact ki mC m0 m1 r0 r1 H
 rw[h1];exact KW mC oZ hlen nP m0 m1 r0 r1 H
theorem Pw:fA (eE 0 0)=0:=by unfold fA;rw[if_neg (by rw[DB];decide),show(eE 0 0).any wA=false by decide+kernel];rfl
theorem bDj:uP [eE 0 0]=0:=by
 rw[zO (fun l hl=>by rw[Bq] at hl;subst hl;exact Pw)];have :Mw [eE 0 0]=false:=CC fun i k hi hk=>by simp only[Ah,Ay] at hi;omega
 rw[this];rfl
theorem bDk:uP [eE 0 0,eE 0 0]=150:=by
 rw[zO (fun l hl=>by
  have :l=eE 0 0:=by simpa using hl
  subst this;exact Pw)]
 have :Mw [eE 0 0,eE 0 0]=true:=GO (i:=1) (k:=0) (by decide) (by decide) Yr;rw[this];rfl
theorem aQt:kS [98] [eE 0 0] 8 10 500 700=0:=by unfold kS;rw[if_neg (by decide+kernel),if_neg (by decide),if_neg (by decide+kernel),bDj]
theorem aQu:kS [98] [eE 0 0,eE 0 0] 8 10 500 700=150:=by unfold kS;rw[if_neg (by decide+kernel),if_neg (by decide),if_neg (by decide+kernel),bDk]
def iI (o p:Int):AV:=.aV 0 3 (bF (eE o p))
theorem Rl (o p:Int):mP (iI o p,eE o p):=.inr rfl
theorem aHv (H:aA):Sg 14 [.agg (bX [98] (.aV 0 1 [[iI 0 0]]) 8 10 500 700)] H (.ret (.int .i64 0)) H:=by have :=KW (name:=[98]) (by decide) (ps:=[(iI 0 0,eE 0 0)]) (fun p hp=>by rw[Bq] at hp;subst hp;exact Rl 0 0) (fun p hp=>by rw[Bq] at hp;subst hp;decide) (by decide) 8 10 500 700 H;rw[show([(iI 0 0,eE 0 0)].map (·.2))=[eE 0 0] from rfl,aQt] at this;exact this
theorem aHw (H:aA):Sg 14 [.agg (bX [98] (.aV 0 1 [[iI 0 0],[iI 0 0]]) 8 10 500 700)] H (.ret (.int .i64 150)) H:=by
 have :=KW (name:=[98]) (by decide) (ps:=[(iI 0 0,eE 0 0),(iI 0 0,eE 0 0)]) (fun p hp=>by
  have :p=(iI 0 0,eE 0 0):=by simpa using hp
  subst this;exact Rl 0 0) (fun p hp=>by
  have :p=(iI 0 0,eE 0 0):=by simpa using hp
  subst this;decide) (by decide) 8 10 500 700 H
 rw[show([(iI 0 0,eE 0 0),(iI 0 0,eE 0 0)].map (·.2))=[eE 0 0,eE 0 0] from rfl,aQu] at this;exact this
theorem bCu (H:aA):Sg 32 [.agg [iI 0 0],.agg [iI 1 1]] H (.ret (.bool false)) H:=by have :=Tg (ta:=0) (tb:=0) rfl rfl DB mz H;rw[Ys] at this;exact this
theorem bCv (H:aA):Sg 32 [.agg [iI 0 0],.agg [iI 2 0]] H (.ret (.bool true)) H:=by have :=Tg (ta:=0) (tb:=0) rfl rfl DB nc H;rw[Yt] at this;exact this
theorem aHx (H:aA):Sg 127 [.agg [iI 0 0]] H (.ret (.aV (H.next+2) 5 ((Vw 0 0).map (cQ (plX (eE 0 0)))))) (H.alloc .tok):=by have hn:∀v∈eE 0 0,bM (2^18) v:=(vW DB).2.2.2.2.2.2;exact KZ (tag:=0) rfl hn (Ak _) (by decide) (aAn DA CZ) (by decide) H
end Go.Proofs.YtbndcmnnbiiobaaGreatDoor
namespace Go.Proofs.YtbndcmnnbiiobaaGreatDoor
open Go Go.Av Go.mO
attribute [local congr] aU aO aP aN aY aR aQ aI aZ
attribute [local irreducible] FC bL eU
def nE (l:List Nat):List (List AV):=l.map fun(k:Nat)=>[AV.int .i64 (k:Int)]
theorem cF (on:List Nat):(nE on).length=on.length:=by simp[nE]
theorem JP {on:List Nat} {i:Nat} (h:i<on.length):(nE on).getD i []=[AV.int .i64 (on[i]:Int)]:=dT h
theorem Sh (a b:List Nat):nE (a++b)=nE a++nE b:=by simp[nE]
theorem SF (a:List Nat):dJ (nE a)=true:=dF (fun _=>by simp only[sf]) a
theorem vI {tag:Nat} (ht:Nat.blt tag 2=true) (l:List Nat):(AV.aV tag 1 (nE l)).free=true:=by simp only[AV.free,ht,SF,Ds]
theorem Kc2 {α:Type} (a b d:α) (l:List α) (k:Nat):(a::b::l).getD (2+k) d=l.getD k d:=by rw[Hh];rfl
theorem kW {l:List Nat} {k:Nat} (h:k<l.length):l.getD k 0=l[k]:=by simp[List.getD,h]
theorem zN (H:aA):Sg 84 [] H (.ret (.agg wU)) H:=by refine So bIj (by simp only[sf]) ?_ H;unfold W84;dsimp only;simp only[↓zP,zJ,seval];exact⟨rfl,_,by simp only[↓zP,zR,seval];rfl,rfl⟩
theorem DR {tag:Nat} (ht:Nat.blt tag 2=true) (l:List Nat) (hlen:l.length<2^30) (k:Nat) (hk:k<2^30) (H:aA):Sg 147 [.aV tag 1 (nE l),.int .i64 k] H (.ret (.int .i64 (l.getD k 0:Nat))) H:=by
 refine So aYq (by simp only[sf,vI ht]) ?_ H;unfold aNx;dsimp only;simp only[↓zP,zJ,seval,cF];refine⟨fun h=>?_,fun h=>?_⟩
 · have h':k<l.length:=by omega
   have hg:=JP h';simp only[zJ,seval,aB,h',hg,kW h'];exact⟨rfl,_,by simp only[↓zP,zR,seval];rfl,rfl⟩
 have h':¬k<l.length:=by omega
 have :l.getD k 0=0:=by rw[Ck,Bw (by omega)];rfl
 rw[this];exact⟨rfl,_,by simp only[↓zP,zR,seval];rfl,rfl⟩
theorem _root_.Go.Av.Sound.aJu {P:Program} {g:bB} {f:FuncId} {x:AV} {sz:Nat} {els:List (List AV)} {rest:List AV} {H H':aA} {out:Out} (h:Sound P g f (x::.aV 0 sz els::rest) H out H') (tag:Nat):
 Sound P g f (x::.aV tag sz els::rest) H out H':=by
 refine⟨h.1,fun G w vs hw hv=>h.2 G w vs hw ⟨hv.1,fun j hj=>?_⟩⟩;have :=hv.2 j hj
 match j with
 |0=>exact this
 |1=>exact VR.yB this
 |j+2=>exact this
theorem aVd (l:List Nat) (hlen:l.length<2^30) (H:aA):Sg 87 [.aV 0 1 (nE l)] H (.ret (.aV 0 1 (nE (mQ l)))) H:=by
 have ht:Nat.blt 0 2=true:=rfl;refine Sp bBu (by simp only[sf,vI ht]) (by simp only[vI ht]) ?_ H;unfold W87;dsimp only;simp only[↓zP,zJ,seval,cF];refine aH ?_;refine fK [3] (fun n vs H'=>H'=⟨0,.nil⟩/\vs=[.int .i64 n]/\n<=l.length/\∀k,n<=k->k<l.length->l.getD k 0=0) l.length (by rfl) ?_ ?_
 · exact⟨rfl,by simp only[sm,zB,seval],Ak _,fun k h1 h2=>absurd h2 (by omega)⟩
 rintro n f H1 hk ⟨rfl,hv,hn,hz⟩;simp only[zM] at hv;have f0:f 0=.aV 0 1 (nE l):=hk 0 rfl;have sH:(nE l).take n=nE (l.take n):=by simp[nE]
 have Mk:iY 1 (.aV 0 1 (nE l)) none (some n) none=some (.aV 0 1 (nE (l.take n))):=by
  simp only[iY,Dg,Bc];rw[if_pos ⟨trivial,Bb _,by rw[cF];exact hn⟩];split
  · rename_i h;rw[cF] at h;rw[h.1,Ar,Cy]
  rw[Cy,Ie,sH]
 have wE:(n=0\/l.getD (n -1) 0≠0)->l.take n=mQ l:=fun h=>rD hn hz h;by_cases h0:n=0
 · have hd:decide ((n:Int)>0)=false:=Ae (by omega);rw[wE (.inl h0)] at Mk;simp only[↓zP,zJ,seval,hv,hd,f0,cZ,aB,Mk,Bu,Bd];refine⟨rfl,_,by simp only[↓zP,zR,seval];rfl,?_⟩;rfl
 have hd:decide ((n:Int)>0)=true:=Al (by omega);have w1:IntKind.i64.wrap ((n:Int) -1)=((n -1:Nat):Int):=wI (by omega);have DJ:n -1<l.length:=by omega
 have hg:=JP DJ;by_cases Mm:l[n -1]=0
 · have hb:(((l[n -1]:Nat):Int)==0)=true:=by rw[Mm];rfl
   simp only[↓zP,zJ,seval,hv,hd,f0,w1,aB,cF,DJ,hg,hb];refine aH ?_;simp only[↓zP,zG,seval,hv,w1];refine⟨n -1,by omega,trivial,rfl,by omega,fun k h1 h2=>?_⟩;by_cases e:k=n -1
   · subst e;rw[kW DJ];exact Mm
   exact hz k (by omega) h2
 have hb:(((l[n -1]:Nat):Int)==0)=false:=by rw[Ca];omega
 rw[wE (.inr (by rw[kW DJ];exact Mm))] at Mk;simp only[↓zP,zJ,seval,hv,hd,f0,w1,aB,cF,DJ,hg,hb,cZ,Mk,Bu,Bd];refine⟨rfl,_,by simp only[↓zP,zR,seval];rfl,?_⟩;rfl
theorem KF (tag:Nat) (l:List Nat) (hlen:l.length<2^30) (H:aA):Sg 87 [.aV tag 1 (nE l)] H (.ret (.aV 0 1 (nE (mQ l)))) H:=(aVd l hlen H).yB tag
def Yd (l:List Nat) (i:Nat):Bool:=(List.range i).all fun k=>((l.getD k 0:Nat):Int)==0
theorem lj (l:List Nat) (i:Nat):Yd l (i+1)=(Yd l i&&(((l.getD i 0:Nat):Int)==0)):=by unfold Yd;rw[Fj,Hn];simp
theorem aGc {l:List Nat} (hl:TT l):Yd l 16=decide (l=zs):=by
 unfold Yd;rw[Du,Ba,Bh];constructor
 · intro h;refine Ge (by rw[hl.1];rfl) fun k h1 h2=>?_;have :=h k (Bi.2 (by rw[hl.1] at h1;exact h1));rw[Dc,kW h1] at this;have h3:zs[k]∈zs:=Ai h2;rw[Ff h3];omega
 rintro rfl k hk;have rS:k<zs.length:=Bi.1 hk;have h3:zs[k]'rS=0:=Ff (Ai rS);rw[Dc,kW rS,h3];rfl
theorem tq (b n:Bool) {l:List Nat} (hl:TT l) (H:aA):Sg 148 [.agg (.bool b::.bool n::wC l)] H (.ret (.bool (if b then decide (l=zs)&& !n else !decide (l=zs)|| !n))) H:=by
 refine So aYr (by simp only[sf]) ?_ H;unfold aNy;dsimp only;simp only[↓zP,zJ,seval];refine bG [3] (fun i vs H'=>H'=((⟨0,.nil⟩:aA).alloc (.cells (.bool b::.bool n::wC l) false))/\vs=[.bool (Yd l i)]) 0 16 (by decide) (by decide) (by decide) ?_ ?_ ?_ ?_ ?_
 · simp only[zB,seval]
 · exact⟨rfl,by simp only[sm,zB,seval];rfl⟩
 · rintro i f H1 h0 hi hk e1 ⟨rfl,hv⟩;simp only[↓zP,zG,seval,e1];exact tB (by omega)
 · rintro i f H1 h0 hi hk e1 ⟨rfl,hv⟩;simp only[zM] at hv;have f1:f 1=.ref 0 0:=hk 1 rfl;have hg:=vS (l:=l) (i:=i) (by rw[hl.1];omega);have hlen:(wC l).length=16:=by rw[cM,hl.1]
   have Oz:(AV.bool b::.bool n::wC l).getD (2+i) aD=.int .u32 (l.getD i 0):=(by rw[Kc2];exact hg);have h2i:2+i<=17:=(by omega);refine aH ?_;rw[lj]
   cases hb:Yd l i with
   |false=>rw[hb] at hv;simp only[↓zP,zJ,seval,hv,Jt]
   |true=>rw[hb] at hv;simp only[↓zP,zJ,seval,hv,f1,e1,aB,hi,hlen,Oz,h2i,Cq]
 rintro f H1 hk ⟨rfl,hv⟩;simp only[zM] at hv;have f1:f 1=.ref 0 0:=hk 1 rfl;rw[aGc hl] at hv;cases b<;>cases h:decide (l=zs)<;>rw[h] at hv
 · simp only[↓zP,zJ,seval,f1,hv];exact⟨rfl,_,by simp only[↓zP,zR,seval];rfl,rfl⟩
 · simp only[↓zP,zJ,seval,f1,hv];exact⟨rfl,_,by simp only[↓zP,zR,seval];rfl,rfl⟩
 · simp only[↓zP,zJ,seval,f1,hv];exact⟨rfl,_,by simp only[↓zP,zR,seval];rfl,rfl⟩
 simp only[↓zP,zJ,seval,f1,hv];exact⟨rfl,_,by simp only[↓zP,zR,seval];rfl,rfl⟩
theorem te (b n:Bool) {l:List Nat} (hl:TT l) (H:aA):Sg 89 [.agg (.bool b::.bool n::wC l)] H (.ret (.bool (EP b n l))) H:=by
 refine So bIm (by simp only[sf]) ?_ H;unfold W89;dsimp only;have hv:=tq b n hl;unfold EP;simp only[↓zP,zJ,seval,iL hl];cases b<;>cases n<;>cases h:decide (l=zs)<;>rw[h] at hv
 · refine bK (hv _) ?_;simp only[↓zP,zJ,seval];exact⟨rfl,_,by simp only[↓zP,zR,seval];rfl,rfl⟩
 · refine bK (hv _) ?_;simp only[↓zP,zJ,seval];exact⟨rfl,_,by simp only[↓zP,zR,seval];rfl,rfl⟩
 · refine bK (hv _) ?_;simp only[↓zP,zJ,seval];exact⟨rfl,_,by simp only[↓zP,zR,seval];rfl,rfl⟩
 · refine bK (hv _) ?_;simp only[↓zP,zJ,seval];exact⟨rfl,_,by simp only[↓zP,zR,seval];rfl,rfl⟩
 · refine bK (hv _) ?_;simp only[↓zP,zJ,seval];exact⟨rfl,_,by simp only[↓zP,zR,seval];rfl,rfl⟩
 · refine bK (hv _) ?_;simp only[↓zP,zJ,seval];exact⟨rfl,_,by simp only[↓zP,zR,seval];rfl,rfl⟩
 · refine bK (hv _) ?_;simp only[↓zP,zJ,seval];exact⟨rfl,_,by simp only[↓zP,zR,seval];rfl,rfl⟩
 refine bK (hv _) ?_;simp only[↓zP,zJ,seval];exact⟨rfl,_,by simp only[↓zP,zR,seval];rfl,rfl⟩
theorem nK {v:List AV} {x:Option Int} (h:fZ v x) (H:aA):Sg 89 [.agg v] H (.ret (.bool x.isSome)) H:=by
 obtain⟨b,n,l,hl,rfl,rfl⟩:=h
 have :(RZ b n l).isSome=EP b n l:=by unfold RZ;cases EP b n l<;>rfl
 rw[this];exact te b n hl H
theorem WW {l:List Nat} {i:Nat} (h:i<l.length):mX (l.take (i+1))=mX (l.take i)++[l[i]%65536,l[i] / 65536]:=by unfold mX;rw[Ap,Fa,Ab h];simp
theorem GA (l:List Nat):(mX l).length=2*l.length:=by
 induction l with
 |nil=>rfl
 |cons x l ih=>have :mX (x::l)=x%65536::x / 65536::mX l:=rfl;rw[this];simp only[Ah,ih];omega
theorem rB (b n:Bool) {l:List Nat} (hl:TT l) (H:aA):Sg 149 [.agg (.bool b::.bool n::wC l)] H (.ret (.aV 0 1 (nE (dg (DO l))))) H:=by
 refine dH fit dQ aYs (Af rfl) (by simp only[sf]) ?_ H;unfold aNz;dsimp only;simp only[↓zP,zJ,seval];refine bG [3] (fun i vs H'=>∃v,vs=[v]/\H'.get 0=some (.cells (.bool b::.bool n::wC l) false)/\1<=H'.next/\Own H' 1 v (nE (mX (l.take i)))) 0 16 (by decide) (by decide) (by decide) ?_ ?_ ?_ ?_ ?_
 · simp only[zB,seval]
 · exact⟨.aS,by simp only[sm,zB,seval],by simp only[zI,seval],by simp only[zI,seval],.nil _ _⟩
 · rintro i f H1 h0 hi hk e1 ⟨v,hv,g0,hn,ho⟩;simp only[↓zP,zG,seval,e1];exact tB (by omega)
 · rintro i f H1 h0 hi hk e1 ⟨v,hv,g0,hn,ho⟩;simp only[zM] at hv;have f1:f 1=.ref 0 0:=hk 1 rfl;have BN:i<l.length:=by rw[hl.1];exact hi
   have Oz:(AV.bool b::.bool n::wC l).getD (2+i) aD=.int .u32 (l[i]:Nat):=by rw[Kc2,vS BN,kW BN]
   have h2i:2+i<=17:=(by omega);have eQ:=hl.2 _ (Ai BN);have hht:=WW BN;have hhl:=GA (l.take i);rw[hht,Sh];generalize mX (l.take i)=done at *;generalize l[i]=w at *;have hW:w<4294967296:=eQ
   have w1:IntKind.i64.wrap ((w:Int).tmod 65536)=((w%65536:Nat):Int):=by rw[Cu (by omega),wrap_i64 (by omega) (by omega)];omega
   have w2:IntKind.i64.wrap (IntKind.u32.wrap ((w:Int).tdiv 65536))=((w / 65536:Nat):Int):=by rw[Eu (by omega),KR (k:=.u32) rfl,wrap_i64 (by simp only[IntKind.bits];omega) (by simp only[IntKind.bits];omega)];simp only[IntKind.bits];omega
   obtain⟨H5,z1,z2,z3,z4,z5⟩:=Has.push (.inr ho) (ys:=nE [w%65536,w / 65536]) (bytes:=8) rfl (by simp only[cF,hhl,Cb,Ah,Ay];omega);refine aH ?_;refine Dz ?_;simp only[↓zP,zJ,seval,zD,f1,g0,hv,e1,aB,hi,Oz,h2i,iL hl,w1,w2];rw[show ∀(h:aA) (x y:List AV),dM h 1 (.aV 1 1 [x,y])=some [x,y] from fun _ _ _=>rfl];rw[show nE [w%65536,w / 65536]=[[.int .i64 ((w%65536:Nat):Int)],[.int .i64 ((w / 65536:Nat):Int)]] from rfl] at z1 ⊢;simp only[z1,bP,seval];exact⟨by omega,_,rfl,(z4 0 (by omega) (by rw[g0];simp)).trans g0,by omega,.inr ⟨H1.next,rfl,by omega,z3⟩⟩
 rintro f H1 hk ⟨v,hv,g0,hn,ho⟩;simp only[zM] at hv;have bFd:l.take 16=l:=by rw[<-hl.1,Ar]
 rw[bFd] at ho
 have bN:nE (mX l)≠[]:=by intro h;have :=Ao List.length h;rw[cF,GA,hl.1] at this;cases this
 rcases ho with ⟨_,h⟩|⟨k,rfl,h1,h2⟩
 · exact absurd h bN
 simp only[↓zP,seval,hv];refine bK (KF (k+2) (mX l) (by rw[GA,hl.1];decide) _) ?_;rw[sF (Rc hl.2),NI];simp only[↓zP,zG,seval];refine⟨rfl,_,by simp only[↓zP,zR,seval];rfl,?_⟩;exact⟨_,0,rfl,fun nw=>oV (vI rfl _)⟩
theorem iU {n:Nat}:(dg n).length<=32↔n<W^16:=by
 have e:(65536:Nat)^32=W^16:=pow_even 16;constructor
 · intro h;have h1:=DW (vC n);rw[nS] at h1;rw[<-e];exact Cf h1 (Dq (by decide) h)
 intro h;rw[<-e] at h;exact DC h
theorem Zk {d:List Nat} (hd:DD d) {m:Nat} (h:2*m<d.length) (hm:d.length<=32):bA (bR (d.take (2*m))) m=0/\(aW 16 (bR (d.take (2*m)))).set m (d.getD (2*m) 0)=aW 16 (bR (d.take (2*m+1))):=by have h1:=qB hd (k:=2*m) (by omega);rw[pow_even] at h1;have h0:bA (bR (d.take (2*m))) m=0:=DM h1;have h2:=hd.getD (2*m);have hW:W=4294967296:=rfl;have h3:=Ls (v:=bR (d.take (2*m))) (X:=d.getD (2*m) 0) (m:=m) (by omega) (Cf h1 (Dq (by decide) (by omega))) (by rw[h0];omega);rw[h0,Df] at h3;refine⟨h0,?_⟩;rw[h3,DX h,pow_even,Da (W^m)]
theorem qj {d:List Nat} (hd:DD d) {m:Nat} (h:2*m+1<d.length) (hm:d.length<=32):bA (bR (d.take (2*m+1))) m<65536/\(aW 16 (bR (d.take (2*m+1)))).set m (bA (bR (d.take (2*m+1))) m+d.getD (2*m+1) 0*65536)=aW 16 (bR (d.take (2*m+1+1))):=by
 have h1:=qB hd (k:=2*m+1) (by omega);rw[pow_odd] at h1;have h0:=(Zj h1).1;have h2:=hd.getD (2*m+1);have hW:W=4294967296:=rfl
 have eQ:bR (d.take (2*m+1))<W^16:=by have :=qB hd (k:=2*m+1) (by omega);have e:(65536:Nat)^32=W^16:=pow_even 16;rw[<-e];exact Cf this (Dq (by decide) (by omega))
 have h3:=Ls (v:=bR (d.take (2*m+1))) (X:=d.getD (2*m+1) 0*65536) (m:=m) (by omega) eQ (by omega);refine⟨h0,?_⟩;rw[h3,DX h,pow_odd];congr 1;rw[Ev,Da (d.getD (2*m+1) 0)]
theorem bDh {a b:AV} {l:List Nat} {i:Nat} (h:i<l.length) (x:Nat):(a::b::wC l).take (2+i)++[AV.int .u32 (x:Int)]++(b::wC l).drop (2+i)=a::b::wC (l.set i x):=by rw[<-yE h,Hh 2 i];simp[gO]
theorem aVs (neg:Bool) {n:Nat} (hn:n<W^16):cI (sg neg n)=.bool false::.bool (neg&& !decide (n=0))::wC (aW 16 n):=by
 cases neg with
 |false=>simp[cI,sg]
 |true=>
  simp only[cI,sg,if_true,Kx,Fk,Cq];congr 2;by_cases h:n=0
  · subst h;simp
  simp[h];omega
theorem aDx (neg:Bool) {l:List Nat} (hl:DD l) (hlen:l.length<2^30) (H:aA):Sg 88 [.bool neg,.aV 0 1 (nE l)] H (.ret (.agg (cO (norm (sg neg (bR l)))))) H:=by
 have Qp:Nat.blt 0 2=true:=rfl;refine Sp bIl (by simp only[sf,vI Qp]) (by simp only[AV.free,tG]) ?_ H;unfold W88;dsimp only;refine bS ?_;simp only[↓zP,zJ,Nat.reduceLT];refine fL ?_;simp only[↓zP,zJ,Nat.reduceLT,Nat.reduceEqDiff];refine bK (KF 0 l hlen _) ?_;rw[sF hl];simp only[↓zP,zG,Nat.reduceLT];refine bT ?_;have hd:=vC (bR l);have hv:=nS (bR l);have hi:=iU (n:=bR l);by_cases hb:bR l<W^16
 · have h32:=hi.2 hb;have d1:decide (((dg (bR l)).length:Int)>32)=false:=Ae (by omega)
   have aBk:norm (sg neg (bR l))=some (sg neg (bR l)):=by unfold norm;rw[if_pos (by rw[lI];exact hb)]
   rw[aBk];simp only[cO];rw[aVs neg hb]
   have bN:decide (bR l=0)= !decide (((dg (bR l)).length:Int)>0):=by
    rw[<-Hd,Az,<-LS (n:=bR l)];constructor
    · intro h;rw[h];simp
    intro h;exact Cs (by omega)
   rw[bN,Bool.not_not];generalize bR l=n at *;generalize dg n=d at *;clear hl hlen hi;subst hv;refine bS ?_;simp only[↓zP,zJ,Nat.reduceLT,cF,d1];refine bT ?_;refine aJ fun K hK=>?_
   have key:∀f:cU,f 4=.ref 0 0->f 5=.aV 0 1 (nE d)->f 6=.ref 1 0->K f [] (((((⟨0,.nil⟩:aA).alloc (.cells (.bool false::.bool false::wC zs) false)).alloc (.cells (.bool false::.bool false::wC zs) false)).set 1 (.cells (.bool false::.bool (neg&&decide ((d.length:Int)>0))::wC zs) false))):=by
    intro f f4 f5 f6;apply hK;clear hK K;generalize (neg&&decide ((d.length:Int)>0))=ng;have DL:wC zs=wC (aW 16 (bR (d.take 0))):=(by rw[Eb];rfl);simp only[↓zP,zJ,Nat.reduceLT,Nat.reduceEqDiff];refine bG [] (fun k vs H'=>H'.get 0=some (.cells (.bool false::.bool false::wC zs) false)/\H'.get 1=some (.cells (.bool false::.bool ng::wC (aW 16 (bR (d.take k)))) false)) 0 d.length (Bb _) (by omega) (by decide) ?_ ?_ ?_ ?_ ?_
    · simp only[zB];rfl
    · exact⟨by simp only[zI,Nat.reduceEqDiff],by rw[<-DL];simp only[zI,Nat.reduceEqDiff]⟩
    · rintro i f H1 h0 hi hk e1 ⟨g0,g1⟩;have e5:f 5=.aV 0 1 (nE d):=(by rw[hk 5 rfl];simp only[zB,Nat.reduceEqDiff];exact f5);simp only[↓zP,zJ,Nat.reduceLT,Nat.reduceEqDiff,e1,e5,cF];exact tB (by omega)
    · rintro i f H1 h0 hi hk e1 ⟨g0,g1⟩;have e5:f 5=.aV 0 1 (nE d):=(by rw[hk 5 rfl];simp only[zB,Nat.reduceEqDiff];exact f5);have e6:f 6=.ref 1 0:=(by rw[hk 6 rfl];simp only[zB,Nat.reduceEqDiff];exact f6);have hg:=JP hi;have hdi:=hd.getD i;rw[kW hi] at hdi;have pr:i / 2<16:=by omega
      have w1:IntKind.i64.wrap ((i:Int).tdiv 2)=((i / 2:Nat):Int):=by rw[Eu (by omega),wrap_i64 (by omega) (by omega)];omega
      have hW:W=4294967296:=rfl;have w2:IntKind.u32.wrap ((d[i]:Nat):Int)=(d[i]:Nat):=(by rw[KR (k:=.u32) rfl];simp only[IntKind.bits];omega);have hgl:=vS (l:=aW 16 (bR (d.take i))) (i:=i / 2) (by rw[bW];exact pr);rw[kI pr] at hgl;have Oz:(AV.bool false::.bool ng::wC (aW 16 (bR (d.take i)))).getD (2+i / 2) aD=.int .u32 (bA (bR (d.take i)) (i / 2):Nat):=(by rw[Kc2];exact hgl);have h2i:2+i / 2<=17:=(by omega);refine aH ?_;by_cases hev:i%2=0
      · have d2:(((i:Int).tmod 2)==0)=true:=(by rw[Cu (by omega),Dc];omega);obtain⟨q1,q2⟩:=Zk hd (m:=i / 2) (by omega) h32;rw[show 2*(i / 2)=i by omega] at q1 q2;rw[kW hi] at q2;simp only[↓zP,zJ,Nat.reduceLT,Int.reduceEq,e1,d2];refine Dz ?_;rw[q1] at Oz;simp only[↓zP,zJ,Nat.reduceLT,Nat.reduceEqDiff,Nat.reduceAdd,zD,reduceCtorEq,Nat.reduceLeDiff,Int.reduceEq,e1,e5,e6,w1,aB,pr,g1,iL (.aW _),h2i,Oz,cF,hi,hg,w2];have w3:IntKind.u32.wrap (((0:Nat):Int)+((d[i]:Nat):Int))=(d[i]:Nat):=(by rw[KR (k:=.u32) rfl];simp only[IntKind.bits];omega);rw[w3,bDh (by rw[bW];exact pr),q2];exact⟨g0,rfl⟩
      have d2:(((i:Int).tmod 2)==0)=false:=(by rw[Cu (by omega),Ca];omega);obtain⟨q1,q2⟩:=qj hd (m:=i / 2) (by omega) h32;rw[show 2*(i / 2)+1=i by omega] at q1 q2;rw[kW hi] at q2;simp only[↓zP,zJ,Nat.reduceLT,Int.reduceEq,e1,d2];refine Dz ?_;simp only[↓zP,zJ,Nat.reduceLT,Nat.reduceEqDiff,Nat.reduceAdd,zD,reduceCtorEq,Nat.reduceLeDiff,Int.reduceEq,e1,e5,e6,w1,aB,pr,g1,iL (.aW _),h2i,Oz,cF,hi,hg,w2]
      have w3:IntKind.u32.wrap (((bA (bR (d.take i)) (i / 2):Nat):Int)+IntKind.u32.wrap (((d[i]:Nat):Int)*65536))=((bA (bR (d.take i)) (i / 2)+d[i]*65536:Nat):Int):=by rw[KR (k:=.u32) rfl,KR (k:=.u32) rfl];simp only[IntKind.bits];omega
      rw[w3,bDh (by rw[bW];exact pr),q2];exact⟨g0,rfl⟩
    rintro f H1 hk ⟨g0,g1⟩;rw[Ar] at g1;have e4:f 4=.ref 0 0:=(by rw[hk 4 rfl];simp only[zB,Nat.reduceEqDiff];exact f4);have e6:f 6=.ref 1 0:=(by rw[hk 6 rfl];simp only[zB,Nat.reduceEqDiff];exact f6);simp only[↓zP,zJ,Nat.reduceAdd,e4,e6,g0,g1,iL (.aW _)];refine⟨rfl,_,by simp only[↓zP,zR,Nat.reduceEqDiff,Nat.reduceAdd,e4,iL (.aW _)];rfl,?_⟩;rfl
   cases neg with
   |false=>simp only[↓zP,zJ,Nat.reduceLT,Nat.reduceEqDiff,Nat.reduceAdd,Nat.reduceLeDiff];exact key _ (by simp only[zB,Nat.reduceEqDiff]) (by simp only[zB,Nat.reduceEqDiff]) (by simp only[zB])
   |true=>simp only[↓zP,zJ,Nat.reduceLT,Nat.reduceEqDiff,Nat.reduceAdd,Nat.reduceLeDiff,cF];exact key _ (by simp only[zB,Nat.reduceEqDiff]) (by simp only[zB,Nat.reduceEqDiff]) (by simp only[zB])
 have d1:decide (((dg (bR l)).length:Int)>32)=true:=Al (by omega)
 have aBk:norm (sg neg (bR l))=none:=by unfold norm;rw[if_neg (by rw[lI];exact hb)]
 rw[aBk];simp only[↓zP,zJ,Nat.reduceLT,Nat.reduceEqDiff,Nat.reduceAdd,Nat.reduceLeDiff,cF,d1];refine bK (zN _) ?_;have wD:wU.length=18:=rfl;simp only[↓zP,zJ,Nat.reduceEqDiff,Nat.reduceAdd,oL wD];refine⟨rfl,_,by simp only[↓zP,zR,Nat.reduceEqDiff,oL wD];rfl,?_⟩;rfl
theorem uQ (neg:Bool) (tag:Nat) {l:List Nat} (hl:DD l) (hlen:l.length<2^30) (H:aA):Sg 88 [.bool neg,.aV tag 1 (nE l)] H (.ret (.agg (cO (norm (sg neg (bR l)))))) H:=(aDx neg hl hlen H).aJu tag
theorem aVa {a b:List Nat} (ha:DD a) (hb:DD b) (RJ:a.length<2^29) (hlb:b.length<2^29) (H:aA):Sg 150 [.aV 0 1 (nE a),.aV 0 1 (nE b)] H (.ret (.bool (decide (bR a<bR b)))) H:=by
 have Qp:Nat.blt 0 2=true:=rfl;refine So aYt (by simp only[sf,vI Qp]) ?_ H;unfold aOa;dsimp only
 have hw:IntKind.i64.wrap ((if(b.length:Int)>a.length then(b.length:Int) else a.length) -1)=((max a.length b.length:Nat):Int) -1:=by rw[wrap_i64 (by split<;>omega) (by split<;>omega)];split<;>omega
 simp only[↓zP,zJ,Nat.reduceLT,Nat.reduceEqDiff,cF,hw];refine NX [] (fun i vs H'=>H'=⟨0,.nil⟩/\bR (a.drop i)=bR (b.drop i)) (max a.length b.length) (by omega) (by decide) ?_ ?_ ?_ ?_ ?_
 · simp only[zB]
 · exact⟨rfl,by rw[Bl (by omega),Bl (by omega)]⟩
 · rintro i f H1 hi hk e1 ⟨rfl,hv⟩;simp only[↓zP,zJ,Nat.reduceLT,e1];exact tB (by omega)
 · rintro i f H1 hi hk e1 ⟨rfl,hv⟩;have f0:f 0=.aV 0 1 (nE a):=hk 0 rfl;have f1:f 1=.aV 0 1 (nE b):=hk 1 rfl;have qa:=DR (tag:=0) rfl a (by omega) i (by omega);have qb:=DR (tag:=0) rfl b (by omega) i (by omega);refine aH ?_;refine aJ fun K hK=>?_;simp only[↓zP,zG,Nat.reduceLT,Nat.reduceEqDiff,e1,f0];refine bK (qa _) ?_;simp only[↓zP,zG,Nat.reduceLT,Nat.reduceEqDiff,e1,f1];refine bK (qb _) ?_;by_cases he:a.getD i 0=b.getD i 0
   · have AL:(((a.getD i 0:Nat):Int) != ((b.getD i 0:Nat):Int))=false:=(by rw[he];simp);simp only[↓zP,zJ,Nat.reduceLT,Nat.reduceEqDiff,AL];apply hK;clear hK K;simp only[↓zP,zG];exact⟨trivial,Uv hv he⟩
   have AL:(((a.getD i 0:Nat):Int) != ((b.getD i 0:Nat):Int))=true:=(by rw[El];omega);simp only[↓zP,zJ,Nat.reduceLT,Nat.reduceEqDiff,AL];apply hK;clear hK K;simp only[↓zP,zG,Nat.reduceLT,Nat.reduceEqDiff,e1,f0];refine bK (qa _) ?_;simp only[↓zP,zG,Nat.reduceLT,Nat.reduceEqDiff,e1,f1];refine bK (qb _) ?_;simp only[↓zP,zJ,Nat.reduceLT,Nat.reduceEqDiff];refine Rx ?_
   have :decide (((a.getD i 0:Nat):Int)<((b.getD i 0:Nat):Int))=decide (bR a<bR b):=by
    rw[Az];constructor
    · intro h;exact Xq ha hb hv (by omega)
    intro h;refine Fs fun hc=>?_;have :=Xq hb ha hv.symm (k:=i) (by omega);omega
   rw[this];rfl
 rintro f H1 hk ⟨rfl,hv⟩;rw[Cy,Cy] at hv;simp only[↓zP];refine Rx ?_;rw[hv,Ae (Fe _)];rfl
theorem XY {a b:List Nat} (ha:DD a) (hb:DD b) (RJ:a.length<2^29) (hlb:b.length<2^29) (t1 t2:Nat) (H:aA):Sg 150 [.aV t1 1 (nE a),.aV t2 1 (nE b)] H (.ret (.bool (decide (bR a<bR b)))) H:=
 ((aVa ha hb RJ hlb H).aJu t2).yB t1
theorem aVb {a b:List Nat} (ha:DD a) (hb:DD b) (RJ:a.length<2^29) (hlb:b.length<2^29) (H:aA):Sg 85 [.aV 0 1 (nE a),.aV 0 1 (nE b)] H (.ret (.aV 0 1 (nE (dg (bR a+bR b))))) H:=by
 have Qp:Nat.blt 0 2=true:=rfl;refine dH fit dQ bIk (Af rfl) (by simp only[sf,vI Qp]) ?_ H;unfold W85;dsimp only;simp only[↓zP,zG,Nat.reduceLT];refine bG [5,6] (fun k vs H'=>∃v c ds,vs=[v,.int .i64 (c:Nat)]/\Own H' 1 v (nE ds)/\ds.length=k/\DD ds/\c<=1/\bR ds+65536^k*c=bR (a.take k)+bR (b.take k)) 0 (max a.length b.length+1) (Bb _) (by omega) (by decide) ?_ ?_ ?_ ?_ ?_
 · simp only[zB];rfl
 · exact⟨.aS,0,[],by simp only[sm,zB,Nat.reduceEqDiff];rfl,.nil _ _,rfl,(fun d hd=>by cases hd),by decide,by simp[bR]⟩
 · rintro i f H1 h0 hi hk e1 ⟨v,c,ds,hv,ho,hl,hd,hc,he⟩;have f0:f 0=.aV 0 1 (nE a):=hk 0 rfl;have f1:f 1=.aV 0 1 (nE b):=hk 1 rfl
   have hw:IntKind.i64.wrap ((if(b.length:Int)>a.length then(b.length:Int) else a.length)+1)=((max a.length b.length+1:Nat):Int):=by rw[wrap_i64 (by split<;>omega) (by split<;>omega)];split<;>omega
   simp only[↓zP,zJ,Nat.reduceLT,Nat.reduceEqDiff,e1,f0,f1,cF,hw];exact tB (by omega)
 · rintro i f H1 h0 hi hk e1 ⟨v,c,ds,hv,ho,hl,hd,hc,he⟩;simp only[zM] at hv;have f0:f 0=.aV 0 1 (nE a):=hk 0 rfl;have f1:f 1=.aV 0 1 (nE b):=hk 1 rfl;have qa:=DR (tag:=0) rfl a (by omega) i (by omega);have qb:=DR (tag:=0) rfl b (by omega) i (by omega);have ba:=ha.getD i;have bb:=hb.getD i;have hs:=vg he;generalize a.getD i 0=x at *;generalize b.getD i 0=y at *;have w1:IntKind.i64.wrap ((x:Int)+(y:Int))=((x+y:Nat):Int):=wI (by omega);have w2:IntKind.i64.wrap (((x+y:Nat):Int)+(c:Int))=((x+y+c:Nat):Int):=wI (by omega);have w3:(((x+y+c:Nat):Int).tmod 65536)=(((x+y+c)%65536:Nat):Int):=by rw[Cu (by omega)];omega
   have w4:IntKind.i64.wrap (((x+y+c:Nat):Int).tdiv 65536)=(((x+y+c) / 65536:Nat):Int):=(by rw[Eu (by omega),wrap_i64 (by omega) (by omega)];omega);obtain⟨H5,z1,z2,z3,z4,z5⟩:=Has.push (.inr ho) (ys:=nE [(x+y+c)%65536]) (bytes:=8) rfl (by simp only[cF,hl,Ah,Ay];omega);rw[show nE [(x+y+c)%65536]=[[.int .i64 (((x+y+c)%65536:Nat):Int)]] from rfl] at z1;refine aH ?_;refine bS ?_;simp only[↓zP,zJ,Nat.reduceLT,Nat.reduceEqDiff,e1,f0];refine bK (qa _) ?_;simp only[↓zP,zG,Nat.reduceLT,Nat.reduceEqDiff,e1,f1];refine bK (qb _) ?_;simp only[↓zP,zJ,Nat.reduceLT,Nat.reduceEqDiff,hv.2,w1,w2];refine bT ?_;simp only[↓zP,zJ,Nat.reduceLT,Nat.reduceEqDiff,Int.reduceEq,hv.1,w3,w4];rw[eL];simp only[z1,bP];refine⟨_,(x+y+c) / 65536,ds++[(x+y+c)%65536],rfl,?_,by simp[hl],?_,by omega,?_⟩
   · rw[Sh];exact .inr ⟨H1.next,rfl,by omega,z3⟩
   · intro d hdm
     rcases As.1 hdm with h|h
     · exact hd d h
     rw[Bq] at h;subst h;omega
   rw[vR,hl];simp only[bR,Ke,Di];exact hs
 rintro f H1 hk ⟨v,c,ds,hv,ho,hl,hd,hc,he⟩;simp only[zM] at hv;rw[Bk (by omega),Bk (by omega)] at he
 have hc0:c=0:=by
  have h1:=DW ha;have h2:=DW hb;have h3:bR a<65536^max a.length b.length:=Cf h1 (Dq (by decide) (by omega));have h4:bR b<65536^max a.length b.length:=Cf h2 (Dq (by decide) (by omega));rw[Dd] at he;generalize 65536^max a.length b.length=X at *
  rcases Gi c with h|h
  · exact h
  have :c=1:=by omega
  subst this;omega
 subst hc0;rw[Ke,Di] at he
 have bN:nE ds≠[]:=by intro h;have :=Ao List.length h;rw[cF,hl] at this;simp at this
 rcases ho with ⟨_,h⟩|⟨k,hvk,h1,h2⟩
 · exact absurd h bN
 rw[hvk] at hv;simp only[↓zP,hv.1];refine bK (KF (k+2) ds (by rw[hl];omega) _) ?_;rw[sF hd,he];simp only[↓zP,zG,Nat.reduceLT];refine Rx ?_;exact⟨_,0,rfl,fun nw=>oV (vI rfl _)⟩
theorem Xb {a b:List Nat} (ha:DD a) (hb:DD b) (RJ:a.length<2^29) (hlb:b.length<2^29) (t1 t2:Nat) (H:aA):Sg 85 [.aV t1 1 (nE a),.aV t2 1 (nE b)] H (.ret (.aV 0 1 (nE (dg (bR a+bR b))))) H:=
 ((aVb ha hb RJ hlb H).aJu t2).yB t1
theorem JS {z:Int} (h:z.natAbs<W^16):norm z=some z:=by unfold norm;rw[if_pos h]
theorem w63 {z:Int} (h:z.natAbs<=2^63):z.natAbs<W^16:=by
 have :(2:Nat)^63<W^16:=by decide
 omega
theorem bCo (a b c d:Nat):[[AV.int .i64 (a:Int)],[.int .i64 (b:Int)],[.int .i64 (c:Int)],[.int .i64 (d:Int)]]=nE [a,b,c,d]:=rfl
theorem DD4 {a b c d:Nat} (h:a<65536/\b<65536/\c<65536/\d<65536):DD [a,b,c,d]:=by
 intro x hx;simp only[Aq,Bx,Em] at hx
 rcases hx with rfl|rfl|rfl|rfl
 · exact h.1
 · exact h.2.1
 · exact h.2.2.1
 exact h.2.2.2
theorem rA {z:Int} (h0: -2^63<=z) (h1:z<2^63) (H:aA):Sg 90 [.int .i64 z] H (.ret (.agg (cI z))) H:=by
 refine So bIo (by simp only[sf]) ?_ H;unfold W90;dsimp only
 have w:∀(n k:Nat),n<2^63->k≠0->IntKind.i64.wrap ((n:Int).tdiv k)=((n / k:Nat):Int):=fun n k hn hk=>by
  have h2:n / k<=n:=Jl n k;have e:(n:Int).tdiv k=((n / k:Nat):Int):=by rw[Eu (by omega)];rfl
  rw[e];generalize n / k=q at *;exact wrap_i64 (by omega) (by omega)
 have m:∀(n k:Nat),(n:Int).tmod k=((n%k:Nat):Int):=fun n k=>by rw[Cu (by omega)];rfl
 have all:∀n:Nat,n<2^63->((n:Int).tmod 65536=((n%65536:Nat):Int))/\(IntKind.i64.wrap ((n:Int).tdiv 65536)=((n / 65536:Nat):Int))/\(((n / 65536:Nat):Int).tmod 65536=((n / 65536%65536:Nat):Int))/\(IntKind.i64.wrap ((n:Int).tdiv 4294967296)=((n / 4294967296:Nat):Int))/\
  (((n / 4294967296:Nat):Int).tmod 65536=((n / 4294967296%65536:Nat):Int))/\(IntKind.i64.wrap ((n:Int).tdiv 281474976710656)=((n / 281474976710656:Nat):Int)):=fun n hn=>
  ⟨m n 65536,w n 65536 hn (by decide),m (n / 65536) 65536,w n 4294967296 hn (by decide),m (n / 4294967296) 65536,w n 281474976710656 hn (by decide)⟩
 by_cases hz:0<=z
 · obtain⟨n,rfl⟩:∃n:Nat,z=n:=⟨z.toNat,by omega⟩;have hn:n<2^63:=by omega
   have hd:decide ((n:Int)≥0)=true:=Al (by omega);have hDD:DD [n%65536,n / 65536%65536,n / 4294967296%65536,n / 281474976710656]:=DD4 ⟨by omega,by omega,by omega,by omega⟩;have xJ:bR [n%65536,n / 65536%65536,n / 4294967296%65536,n / 281474976710656]=n:=(by simp only[bR];omega);have NO:=uQ false 1 hDD (by simp);rw[xJ,JS (by rw[lI];exact w63 (z:=n) (by omega))] at NO;simp only[↓zP,zJ,seval,hd,all n hn];rw[bCo];refine bK (NO _) ?_;simp only[cO,sg];simp only[↓zP,zJ,seval];refine Rx ?_;rfl
 obtain⟨n,rfl⟩:∃n:Nat,z= -((n:Int)+1):=⟨(-z -1).toNat,by omega⟩;have hn:n<2^63:=by omega
 have hd:decide (-((n:Int)+1)≥0)=false:=Ae (by omega);have b1:IntKind.i64.wrap (-((n:Int)+1)+1)= -(n:Int):=wI (by omega);have b2:IntKind.i64.wrap (0 - -(n:Int))=(n:Int):=wI (by omega);have hDD:DD [n%65536,n / 65536%65536,n / 4294967296%65536,n / 281474976710656]:=DD4 ⟨by omega,by omega,by omega,by omega⟩;have xJ:bR [n%65536,n / 65536%65536,n / 4294967296%65536,n / 281474976710656]=n:=by simp only[bR];omega
 have hD1:DD [1]:=fun d hd=>by rw[Bq] at hd;subst hd;decide
 have hp:=Xb hDD hD1 (by simp) (by simp) 1 1;rw[xJ,show bR [1]=1 from rfl] at hp
 have NO:=uQ true 0 (vC (n+1)) (by
  have :=DC (k:=5) (n:=n+1) (by
   have :(2:Nat)^63<65536^5:=by decide
   omega)
  omega)
 rw[nS,JS (by rw[lI];exact w63 (z:=(n+1:Nat)) (by omega))] at NO;simp only[↓zP,zJ,seval,hd,b1,b2,all n hn];rw[bCo,show [[AV.int .i64 1]]=nE [1] from rfl];refine bK (hp _) ?_;refine bK (NO _) ?_;rw[show sg true (n+1)= -((n:Int)+1) by simp[sg]];simp only[cO];simp only[↓zP,zJ,seval];refine Rx ?_;rfl
def ke:Option Int->Int×Bool
 |some z=>if z.natAbs<2^62 then(z,true) else(0,false)
 |none=>(0,false)
theorem c8 {n:Nat} (h:n<W^16) (h1:bA n 1<1073741824) (h2:∀k,2<=k->k<16->bA n k=0):n<2^62/\n=bA n 1*4294967296+bA n 0:=by
 have hW:W=4294967296:=rfl;have h3:=PZ (m:=2) h h2;have e1:bA n 1=n / 4294967296%4294967296:=by simp[bA,hW]
 have e0:bA n 0=n%4294967296:=by simp[bA,hW]
 have e2:W^2=18446744073709551616:=rfl;rw[e2] at h3;omega
theorem vp {n k:Nat} (hk:2<=k) (h:bA n k≠0):¬n<2^62:=by have h1:=im h;have h2:W^2<=W^k:=Dq (by decide) hk;have e2:W^2=18446744073709551616:=rfl;omega
theorem aFb {n:Nat} (h:¬bA n 1<1073741824):¬n<2^62:=by
 have hW:W=4294967296:=rfl;have e1:bA n 1=n / 4294967296%4294967296:=by simp[bA,hW]
 omega
theorem c7 {p q n:Nat} (hp:p<1073741824) (hq:q<4294967296) (e:n=p*4294967296+q):IntKind.i64.wrap (p:Int)=p/\IntKind.i64.wrap ((p:Int)*4294967296)=(p:Int)*4294967296/\IntKind.i64.wrap (q:Int)=q/\IntKind.i64.wrap ((p:Int)*4294967296+(q:Int))=n/\IntKind.i64.wrap (0 -(n:Int))= -(n:Int):=by
 refine⟨wrap_i64 (by omega) (by omega),wrap_i64 (by omega) (by omega),wrap_i64 (by omega) (by omega),?_,?_⟩
 · rw[wrap_i64 (by omega) (by omega)];omega
 rw[wrap_i64 (by omega) (by omega)];omega
theorem cg {z:Int} (hz:z.natAbs<W^16) (H:aA):Sg 262 [.agg (cI z)] H (.ret (.gP [.int .i64 (ke (some z)).1,.bool (ke (some z)).2])) H:=by
 refine So bBa (by simp only[sf,cH]) ?_ H;unfold aQf;dsimp only;have ET:=nK (fZ.enc hz);have hl:=iL (.aW z.natAbs);simp only[ke];unfold cI at ET ⊢;have d1:decide (((bA z.natAbs 1:Nat):Int)≥1073741824)= !decide (bA z.natAbs 1<1073741824):=by rw[<-Hd,Az];omega
 have hg:∀k,k<16->(AV.bool false::.bool (decide (z<0))::wC (aW 16 z.natAbs)).getD (2+k) aD=.int .u32 (bA z.natAbs k:Nat):=fun k hk=>by rw[Kc2,vS (by rw[bW];exact hk),kI hk]
 have VI:(wC (aW 16 z.natAbs)).getD 1 aD=.int .u32 (bA z.natAbs 1:Nat):=hg 1 (by decide);have hg0:(wC (aW 16 z.natAbs)).getD 0 aD=.int .u32 (bA z.natAbs 0:Nat):=hg 0 (by decide);refine bS ?_;simp only[↓zP,zJ,seval];refine bT ?_;simp only[↓zP,zJ,seval,hl];refine bK (ET _) ?_;by_cases h1:bA z.natAbs 1<1073741824
 · have YB:decide (((bA z.natAbs 1:Nat):Int)≥1073741824)=false:=by rw[d1];simp[h1]
   simp only[Bd];simp only[↓zP,zJ,seval,jI,hl,VI,YB];refine bG [] (fun k vs H'=>H'=((⟨0,.nil⟩:aA).alloc (.cells (.bool false::.bool (decide (z<0))::wC (aW 16 z.natAbs)) false))/\∀j,2<=j->j<k->bA z.natAbs j=0) 2 16 (by decide) (by decide) (by decide) ?_ ?_ ?_ ?_ ?_
   · simp only[zB,seval]
   · exact⟨rfl,fun j h1 h2=>by omega⟩
   · rintro i f H1 h0 hi hk e1 ⟨rfl,hj⟩;simp only[↓zP,zG,seval,e1];exact tB (by omega)
   · rintro i f H1 h0 hi hk e1 ⟨rfl,hj⟩;have f1:f 1=.ref 0 0:=hk 1 rfl;have AJ:=hg i hi;have h2i:2+i<=17:=(by omega);refine aH ?_;by_cases Mm:bA z.natAbs i=0
     · have hb:(((bA z.natAbs i:Nat):Int) != 0)=false:=(by rw[Mm];rfl);simp only[↓zP,zJ,seval,f1,e1,aB,hi,hl,AJ,h2i,hb]
       exact⟨trivial,fun j h1 h2=>by
        by_cases e:j=i
        · subst e;exact Mm
        exact hj j h1 (by omega)⟩
     have hb:(((bA z.natAbs i:Nat):Int) != 0)=true:=(by rw[El];omega);simp only[↓zP,zJ,seval,f1,e1,aB,hi,hl,AJ,h2i,hb];refine Rx ?_;rw[if_neg (vp h0 Mm)];rfl
   rintro f H1 hk ⟨rfl,hj⟩;have f1:f 1=.ref 0 0:=hk 1 rfl;obtain⟨eQ,xJ⟩:=c8 hz h1 hj;rw[if_pos eQ];have c0:bA z.natAbs 0<4294967296:=gE z.natAbs 0;obtain⟨w1,w2,w3,w4,w5⟩:=c7 h1 c0 xJ;by_cases hn:z<0
   · have d2:decide (z<0)=true:=Al hn;simp only[↓zP,zJ,seval,f1,hl,VI,hg0,w1,w2,w3,w4,w5,d2];refine Rx ?_;rw[show -(z.natAbs:Int)=z by omega];rfl
   have d2:decide (z<0)=false:=Ae hn;simp only[↓zP,zJ,seval,f1,hl,VI,hg0,w1,w2,w3,w4,d2];refine Rx ?_;rw[show(z.natAbs:Int)=z by omega];rfl
 have YB:decide (((bA z.natAbs 1:Nat):Int)≥1073741824)=true:=by rw[d1];simp[h1]
 simp only[Bd];simp only[↓zP,zJ,seval,jI,hl,VI,YB];refine Rx ?_;rw[if_neg (aFb h1)];rfl
theorem sB {z:Int} (hz:z.natAbs<2^62) (H:aA):Sg 262 [.agg (cI z)] H (.ret (.gP [.int .i64 z,.bool true])) H:=by
 have :=cg (z:=z) (w63 (by omega)) H
 rwa [ke,if_pos hz] at this
theorem aAq {z:Int} (h:z.natAbs<2^62):z.natAbs<W^16:=w63 (by omega)
theorem aDv (x:Int) (H:aA):Sg 263 [.int .i64 x] H (.ret (.bool (decide (x<2147483648)&&decide (x> -2147483648)))) H:=by
 refine So bBb (by simp only[sf]) ?_ H;unfold aQg;dsimp only
 cases h:decide (x<2147483648) with
 |true=>simp only[↓zP,zJ,seval,h];exact⟨rfl,_,by simp only[↓zP,zR,seval];rfl,rfl⟩
 |false=>simp only[↓zP,zJ,seval,h];exact⟨rfl,_,by simp only[↓zP,zR,seval];rfl,rfl⟩
theorem NC {x:Int} (h:x.natAbs<2^31) (H:aA):Sg 263 [.int .i64 x] H (.ret (.bool true)) H:=by
 have :=aDv x H
 rwa [Al (show x<2147483648 by omega),Al (show x> -2147483648 by omega)] at this
theorem uN {x y:Int} (hx:x.natAbs<2^31) (hy:y.natAbs<2^31) (H:aA):Sg 237 [.agg (cI x),.agg (cI y)] H (.ret (.agg (cI (x*y)))) H:=by
 refine Sp bAr (by simp only[sf,cH]) (by simp only[AV.free,cH]) ?_ H;unfold aPw;dsimp only
 have hb:(x*y).natAbs<2^62:=by
  rw[Ha];have :=Nat.mul_lt_mul'' hx hy;have e:(2:Nat)^31*2^31=2^62:=by decide
  omega
 have wm:IntKind.i64.wrap (x*y)=x*y:=wrap_i64 (by omega) (by omega);have ho:=rA (z:=x*y) (by omega) (by omega);refine bS ?_;simp only[↓zP,zJ,seval];refine fL ?_;simp only[↓zP,zJ,seval];refine bK (sB (z:=x) (by omega) _) ?_;simp only[↓zP,zJ,seval];refine fL ?_;simp only[↓zP,zJ,seval];refine bK (sB (z:=y) (by omega) _) ?_;simp only[↓zP,zJ,seval];refine bT ?_;refine aJ fun K hK=>?_;simp only[↓zP,zG,seval];refine bK (NC hx _) ?_;simp only[↓zP,zG,seval];refine bK (NC hy _) ?_;simp only[↓zP,zG,seval,wm];refine bK (ho _) ?_;simp only[↓zP,zJ,seval];refine Rx ?_;rfl
theorem GS {x y:Int} (hx:x.natAbs<2^62) (hy:y.natAbs<2^62) (H:aA):Sg 260 [.agg (cI x),.agg (cI y)] H (.ret (.agg (cI (x+y)))) H:=by refine Sp bAy (by simp only[sf,cH]) (by simp only[AV.free,cH]) ?_ H;unfold aQd;dsimp only;have wm:IntKind.i64.wrap (x+y)=x+y:=wrap_i64 (by omega) (by omega);have ho:=rA (z:=x+y) (by omega) (by omega);refine bS ?_;simp only[↓zP,zJ,seval];refine fL ?_;simp only[↓zP,zJ,seval];refine bK (sB hx _) ?_;simp only[↓zP,zJ,seval];refine fL ?_;simp only[↓zP,zJ,seval];refine bK (sB hy _) ?_;simp only[↓zP,zJ,seval];refine bT ?_;refine aJ fun K hK=>?_;simp only[↓zP,zG,seval,wm];refine bK (ho _) ?_;simp only[↓zP,zJ,seval];refine Rx ?_;rfl
theorem aJj {z:Int} (hz:z.natAbs<W^16) (H:aA):Sg 261 [.agg (cI z)] H (.ret (.agg (cI (-z)))) H:=by refine Sp bAz (by simp only[sf,cH]) (by simp only[AV.free,cH]) ?_ H;unfold aQe;dsimp only;have ET:=nK (fZ.enc hz);have hd:=rB false (decide (z<0)) (.aW z.natAbs);have hn:=uQ (!decide (z<0)) 0 (vC z.natAbs) (by have :=iU.2 hz;omega);rw[nS,JS (by rw[lI];exact hz),show sg (!decide (z<0)) z.natAbs= -z from by unfold sg;split<;>simp_all<;>omega] at hn;rw[gU hz] at hd;have ZP:AV.bool false::AV.bool (decide (z<0))::wC (aW 16 z.natAbs)=cI z:=rfl;rw[ZP] at hd;have h1:(cI z).getD 1 aD=.bool (decide (z<0)):=rfl;refine bS ?_;simp only[↓zP,zJ,seval];refine fL ?_;simp only[↓zP,zJ,seval];refine bK (ET _) ?_;simp only[Bd];simp only[↓zP,zJ,seval];refine fL ?_;refine Dz ?_;simp only[↓zP,zJ,seval,zD,h1];refine eT (hd _) ?_;simp only[seval];refine eT (hn _) ?_;simp only[cO];simp only[↓zP,zJ,seval,zD];refine bT ?_;simp only[↓zP,seval];refine Rx ?_;rfl
theorem bp {x y:Int} (hx:x.natAbs<2^62) (hy:y.natAbs<2^62) (H:aA):Sg 236 [.agg (cI x),.agg (cI y)] H (.ret (.agg (cI (x -y)))) H:=by refine Sp bAq (by simp only[sf,cH]) (by simp only[AV.free,cH]) ?_ H;unfold aPv;dsimp only;have ha:=GS hx (y:= -y) (by rwa [Kx]);rw[<-Int.sub_eq_add_neg] at ha;refine bS ?_;simp only[↓zP,zJ,seval];refine fL ?_;refine Dz ?_;simp only[↓zP,zJ,seval,zD];refine eT (aJj (aAq hy) _) ?_;simp only[seval];refine eT (ha _) ?_;simp only[↓zP,zJ,seval,zD];refine bT ?_;simp only[↓zP,seval];refine Rx ?_;rfl
theorem aJg {z:Int} (hz:z.natAbs<W^16) (H:aA):Sg 289 [.agg (cI z)] H (.ret (.agg (cI (z.natAbs:Int)))) H:=by refine Sp bBc (by simp only[sf,cH]) (by simp only[AV.free,cH]) ?_ H;unfold aQh;dsimp only;have ET:=nK (fZ.enc hz);have hd:=rB false (decide (z<0)) (.aW z.natAbs);have hn:=uQ false 0 (vC z.natAbs) (by have :=iU.2 hz;omega);rw[nS,JS (by rw[lI];exact hz),show sg false z.natAbs=(z.natAbs:Int) from rfl] at hn;rw[gU hz] at hd;have ZP:AV.bool false::AV.bool (decide (z<0))::wC (aW 16 z.natAbs)=cI z:=rfl;rw[ZP] at hd;refine bS ?_;simp only[↓zP,zJ,seval];refine fL ?_;simp only[↓zP,zJ,seval];refine bK (ET _) ?_;simp only[Bd];simp only[↓zP,zJ,seval];refine bT ?_;simp only[↓zP,zJ,seval];refine bK (hd _) ?_;refine bK (hn _) ?_;simp only[cO];simp only[↓zP,zJ,seval];refine Rx ?_;rfl
def aEd (z:Int):Int:=if z=0 then 0 else if z<0 then -1 else 1
theorem aDr {z:Int} (hz:z.natAbs<W^16) (H:aA):Sg 256 [.agg (cI z)] H (.ret (.int .i64 (aEd z))) H:=by
 refine So bAu (by simp only[sf,cH]) ?_ H;unfold aPz;dsimp only;have ET:=nK (fZ.enc hz);have hd:=rB false (decide (z<0)) (.aW z.natAbs);rw[gU hz] at hd;have ZP:AV.bool false::AV.bool (decide (z<0))::wC (aW 16 z.natAbs)=cI z:=rfl;rw[ZP] at hd;have h1:(cI z).getD 1 aD=.bool (decide (z<0)):=rfl;unfold aEd;refine bS ?_;simp only[↓zP,zJ,seval];refine bT ?_;refine aJ fun K hK=>?_;simp only[↓zP,zJ,seval];refine bK (ET _) ?_;simp only[Bd];simp only[↓zP,zJ,seval];refine bK (hd _) ?_;by_cases h0:z=0
 · have hb:(((dg z.natAbs).length:Int)==0)=true:=by
    rw[Dc,LS.2 (by omega)];rfl
   simp only[↓zP,zG,seval,cF,hb];refine Rx ?_;rw[if_pos h0];rfl
 have hb:(((dg z.natAbs).length:Int)==0)=false:=by rw[Ca];intro h;have :=LS.1 (Cs (l:=dg z.natAbs) (by omega));omega
 simp only[↓zP,zG,seval,cF,hb];apply hK;clear hK K
 cases hn:decide (z<0) with
 |true=>rw[hn] at h1;simp only[↓zP,zJ,seval,h1];refine Rx ?_;rw[if_neg h0,if_pos (Ea hn)];rfl
 |false=>rw[hn] at h1;simp only[↓zP,zJ,seval,h1];refine Rx ?_;rw[if_neg h0,if_neg (Ek hn)];rfl
theorem vM {x y:Int} (hx:x.natAbs<W^16) (hy:y.natAbs<W^16) (H:aA):Sg 91 [.agg (cI x),.agg (cI y)] H (.ret (.int .i64 (iH (some x) (some y)))) H:=by
 refine So bIp (by simp only[sf,cH]) ?_ H;unfold W91;dsimp only;have gx:=nK (fZ.enc hx);have gy:=nK (fZ.enc hy);have dx:=rB false (decide (x<0)) (.aW x.natAbs);have dy:=rB false (decide (y<0)) (.aW y.natAbs);rw[gU hx] at dx;rw[gU hy] at dy;rw[show AV.bool false::AV.bool (decide (x<0))::wC (aW 16 x.natAbs)=cI x from rfl] at dx;rw[show AV.bool false::AV.bool (decide (y<0))::wC (aW 16 y.natAbs)=cI y from rfl] at dy;have lx:(dg x.natAbs).length<2^29:=by have :=iU.2 hx;omega
 have ly:(dg y.natAbs).length<2^29:=by have :=iU.2 hy;omega
 have l1:=XY (vC x.natAbs) (vC y.natAbs) lx ly 0 0;have l2:=XY (vC y.natAbs) (vC x.natAbs) ly lx 0 0;rw[nS,nS] at l1 l2;have x1:(cI x).getD 1 aD=.bool (decide (x<0)):=rfl;have y1:(cI y).getD 1 aD=.bool (decide (y<0)):=rfl;simp only[iH];refine bS ?_;simp only[↓zP,zJ,seval];refine fL ?_;simp only[↓zP,zJ,seval];refine bK (gx _) ?_;simp only[Bd];simp only[↓zP,zJ,seval];refine fL ?_;simp only[↓zP,zJ,seval];refine bK (gx _) ?_;simp only[Bd];simp only[↓zP,zJ,seval];refine fL ?_;simp only[↓zP,zJ,seval];refine bK (gy _) ?_;simp only[Bd];simp only[↓zP,zJ,seval];refine bT ?_;have tf:(true==false)=false:=rfl;have ft:(false==true)=false:=rfl;by_cases YJ:x<0
 · rw[Al YJ] at x1;by_cases SV:y<0
   · rw[Al SV] at y1;refine bS ?_;simp only[↓zP,zJ,seval,x1,y1];refine fL ?_;simp only[↓zP,zJ,seval];refine bK (dx _) ?_;simp only[↓zP,zG,seval];refine fL ?_;simp only[↓zP,zJ,seval];refine bK (dy _) ?_;simp only[↓zP,zG,seval];refine fL ?_;simp only[↓zP,zJ,seval,x1];refine bK (dy _) ?_;simp only[↓zP,zJ,seval];refine bK (dx _) ?_;simp only[↓zP,zG,seval];refine fL ?_;simp only[↓zP,zG,seval];refine bK (l2 _) ?_;simp only[↓zP,zG,seval];refine fL ?_;simp only[↓zP,zG,seval];refine bK (l1 _) ?_;simp only[↓zP,zG,seval];refine bT ?_;by_cases h1:y.natAbs<x.natAbs
     · have e1:=Al h1;simp only[↓zP,zG,seval,e1];refine Rx ?_;rw[if_pos (by omega)];rfl
     have e1:=Ae h1;by_cases h2:x.natAbs<y.natAbs
     · have e2:=Al h2;simp only[↓zP,zG,seval,e1,e2];refine Rx ?_;rw[if_neg (by omega),if_pos (by omega)];rfl
     have e2:=Ae h2;simp only[↓zP,zG,seval,e1,e2];refine Rx ?_;rw[if_neg (by omega),if_neg (by omega)];rfl
   rw[Ae SV] at y1;simp only[↓zP,zJ,seval,x1,y1,tf];refine Rx ?_;rw[if_pos (by omega)];rfl
 rw[Ae YJ] at x1;by_cases SV:y<0
 · rw[Al SV] at y1;simp only[↓zP,zJ,seval,x1,y1,ft];refine Rx ?_;rw[if_neg (by omega),if_pos (by omega)];rfl
 rw[Ae SV] at y1;refine bS ?_;simp only[↓zP,zJ,seval,x1,y1];refine fL ?_;simp only[↓zP,zJ,seval];refine bK (dx _) ?_;simp only[↓zP,zG,seval];refine fL ?_;simp only[↓zP,zJ,seval];refine bK (dy _) ?_;simp only[↓zP,zG,seval];refine fL ?_;simp only[↓zP,zJ,seval,x1];refine fL ?_;simp only[↓zP,zG,seval];refine bK (l1 _) ?_;simp only[↓zP,zG,seval];refine fL ?_;simp only[↓zP,zG,seval];refine bK (l2 _) ?_;simp only[↓zP,zG,seval];refine bT ?_;by_cases h1:x.natAbs<y.natAbs
 · have e1:=Al h1;simp only[↓zP,zG,seval,e1];refine Rx ?_;rw[if_pos (by omega)];rfl
 have e1:=Ae h1;by_cases h2:y.natAbs<x.natAbs
 · have e2:=Al h2;simp only[↓zP,zG,seval,e1,e2];refine Rx ?_;rw[if_neg (by omega),if_pos (by omega)];rfl
 have e2:=Ae h2;simp only[↓zP,zG,seval,e1,e2];refine Rx ?_;rw[if_neg (by omega),if_neg (by omega)];rfl
end Go.Proofs.YtbndcmnnbiiobaaGreatDoor
namespace Go.Proofs.YtbndcmnnbiiobaaGreatDoor
open Go Go.Av Go.aG Go.mO
attribute [local congr] aU aO aP aN aY aR aQ aI aZ
attribute [local irreducible] FC bL eU
theorem Xk {p q n:Nat} (hn:n<2^64) (e:n=p*4294967296+q) (hq:q<4294967296):IntKind.u64.wrap (p:Int)=p/\IntKind.u64.wrap ((p:Int)*4294967296)=(p:Int)*4294967296/\IntKind.u64.wrap (q:Int)=q/\IntKind.u64.wrap ((p:Int)*4294967296+(q:Int))=n:=by refine⟨?_,?_,?_,?_⟩<;>rw[KR (k:=.u64) rfl]<;>simp only[IntKind.bits]<;>omega
theorem aVf {n:Nat} (h:n<2^64):n=bA n 1*4294967296+bA n 0/\bA n 0<4294967296:=by
 have hW:W=4294967296:=rfl;have e1:bA n 1=n / 4294967296%4294967296:=by simp[bA,hW]
 have e0:bA n 0=n%4294967296:=by simp[bA,hW]
 omega
theorem Lx {z:Int} (h0: -2^63<=z) (h1:z<2^63) (H:aA):Sg 43 [.agg (cI z)] H (.ret (.gP [.int .i64 z,.bool true])) H:=by
 refine So aTh (by simp only[sf,cH]) ?_ H;unfold W43;dsimp only;have hz:z.natAbs<W^16:=w63 (by omega);have gz:=nK (fZ.enc hz);have lo:=rA (z:= -9223372036854775808) (by decide) (by decide);have hi:=rA (z:=9223372036854775807) (by decide) (by decide);have c1:=vM hz (y:= -9223372036854775808) (by decide);have c2:=vM hz (y:=9223372036854775807) (by decide);have d1:decide (iH (some z) (some (-9223372036854775808))<0)=false:=Ae (by simp only[iH];split<;>(try split)<;>omega);have d2:decide (iH (some z) (some 9223372036854775807)>0)=false:=Ae (by simp only[iH];split<;>(try split)<;>omega);obtain⟨s1,s2⟩:=aVf (n:=z.natAbs) (by omega);obtain⟨w1,w2,w3,w4⟩:=Xk (by omega) s1 s2
 have w5:IntKind.i64.wrap (z.natAbs:Int)=if z<0/\z.natAbs=2^63 then z else(z.natAbs:Int):=by
  by_cases h:z.natAbs=2^63
  · rw[if_pos ⟨by omega,h⟩,h];have :z= -2^63:=by omega
    rw[this];rfl
  rw[if_neg (fun hh=>h hh.2)];exact wrap_i64 (by omega) (by omega)
 have VI:(wC (aW 16 z.natAbs)).getD 1 aD=.int .u32 (bA z.natAbs 1:Nat):=by rw[vS (by rw[bW];decide),kI (by decide)]
 have hg0:(wC (aW 16 z.natAbs)).getD 0 aD=.int .u32 (bA z.natAbs 0:Nat):=by rw[vS (by rw[bW];decide),kI (by decide)]
 have hl:=iL (.aW z.natAbs);have fS:∀z,(cI z).length=18:=fun z=>by simp[cI,cM,bW]
 have e1:(cI z).getD 1 aD=.bool (decide (z<0)):=rfl;have e2:(cI z).getD 2 aD=.int .u32 (bA z.natAbs 0:Nat):=hg0;have e3:(cI z).getD 3 aD=.int .u32 (bA z.natAbs 1:Nat):=VI;refine bS ?_;simp only[↓zP,zJ,seval];refine fL ?_;simp only[↓zP,zJ,seval];refine bK (gz _) ?_;simp only[Bd];simp only[↓zP,zJ,seval];refine fL ?_;simp only[↓zP,seval,zI];refine bK (lo _) ?_;simp only[↓zP,zJ,seval,oL (fS (-9223372036854775808))];refine fL ?_;simp only[↓zP,seval,zI];refine bK (hi _) ?_;simp only[↓zP,zJ,seval,oL (fS 9223372036854775807)];refine fL ?_;simp only[↓zP,zJ,seval];refine bK (c1 _) ?_;simp only[↓zP,zJ,seval,d1];refine bK (c2 _) ?_;simp only[↓zP,zG,seval,d2];refine fL ?_;simp only[↓zP,zJ,seval,jI,e2,e3,w1,w2,w3,w4,w5];refine bT ?_;by_cases hn:z<0
 · rw[Al hn] at e1
   have w6:IntKind.i64.wrap (0 -(if z<0/\z.natAbs=2^63 then z else(z.natAbs:Int)))=z:=by
    by_cases h:z.natAbs=2^63
    · rw[if_pos ⟨hn,h⟩];have :z= -2^63:=(by omega);rw[this];rfl
    rw[if_neg (fun hh=>h hh.2),wrap_i64 (by omega) (by omega)];omega
   simp only[↓zP,zJ,seval,e1,w6];refine Rx ?_;rfl
 rw[Ae hn] at e1;simp only[↓zP,zJ,seval,e1];refine Rx ?_;rw[if_neg (fun hh=>hn hh.1),show(z.natAbs:Int)=z by omega];rfl
theorem bh {a b:Int} (ha:a.natAbs<2^62) (hb:b.natAbs<2^62) (H:aA):Sg 255 [.agg (cI a),.agg (cI b)] H (.ret (.agg (cI (Int.gcd a b)))) H:=by
 refine Sp bAt (by simp only[sf,cH]) (by simp only[AV.free,cH]) ?_ H;unfold aPy;dsimp only;refine bS ?_;simp only[↓zP,zJ,seval];refine fL ?_;simp only[↓zP,zJ,seval];refine bK (sB ha _) ?_;simp only[↓zP,zJ,seval];refine fL ?_;simp only[↓zP,zJ,seval];refine bK (sB hb _) ?_;simp only[↓zP,zJ,seval];refine bT ?_;refine aJ fun K hK=>?_;simp only[↓zP,zG,seval];refine aH (fK [5,7] (fun m vs H'=>H'=(((⟨0,.nil⟩:aA).alloc (.cells (cI a) false)).alloc (.cells (cI b) false)).alloc (.cells (.bool false::.bool false::wC zs) false)/\∃x y:Int,vs=[.int .i64 x,.int .i64 y]/\x.natAbs<2^62/\y.natAbs<2^62/\m=y.natAbs/\Int.gcd x y=Int.gcd a b) b.natAbs (by rfl) ?_ ?_)
 · exact⟨rfl,a,b,by simp only[sm,zB,seval],ha,hb,rfl,rfl⟩
 rintro m f H hk ⟨rfl,x,y,hv,hx,hy,rfl,hg⟩;simp only[zM] at hv;obtain⟨h0,h1⟩:=hv;have f4:f 4=.ref 2 0:=hk 4 rfl;by_cases SV:y=0
 · subst SV;have ho:=rA (z:=x) (by omega) (by omega);have EC:=aJg (z:=x) (aAq hx);have VM:(x.natAbs:Int)=Int.gcd a b:=by rw[<-hg];simp[Int.gcd]
   rw[VM] at EC;simp only[↓zP,zG,seval,h1,h0,show((0:Int) != 0)=false from rfl];refine bK (ho _) ?_;refine bK (EC _) ?_;simp only[↓zP,zJ,seval,f4];refine⟨rfl,_,by simp only[↓zP,zR,seval,f4];rfl,?_⟩;rfl
 have tR:(y != 0)=true:=by simpa using SV
 have eQ:(x.tmod y).natAbs<y.natAbs:=by rw[natAbs_tmod];exact De _ (by omega)
 simp only[↓zP,zJ,seval,h1,tR];refine aH ?_;simp only[↓zP,zG,seval,h0,h1];rw[if_neg SV];simp only[zG,seval];exact⟨_,eQ,trivial,y,x.tmod y,by simp only[seval],hy,by omega,rfl,by rw[WQ,hg]⟩
theorem ue {n m:Int} (hm:0<m) (hd:m∣n) (hn:n.natAbs<2^62) (H:aA):Sg 291 [.int .i64 n,.int .i64 m] H (.ret (.int .i64 (n / m))) H:=by
 refine So bBd (by simp only[sf]) ?_ H;unfold aQi;dsimp only;have e1:n.tdiv m=n / m:=Iq hd;have e2:n.tmod m=0:=Int.tmod_eq_zero_of_dvd hd
 have hw:IntKind.i64.wrap (n / m)=n / m:=by
  obtain⟨k,rfl⟩:=hd;rw[Int.mul_ediv_cancel_left _ (by omega)]
  have :k.natAbs<=(m*k).natAbs:=by rw[Ha];exact Iu _ (by omega)
  exact wrap_i64 (by omega) (by omega)
 have JA:¬m=0:=by omega
 simp only[↓zP,zJ,seval,e1,e2,hw,JA,show((0:Int) != 0)=false from rfl];refine Rx ?_;rfl
theorem bj {n m:Int} (hm:0<m) (hd:m∣n) (hn:n.natAbs<2^62) (hm2:m.natAbs<2^62) (H:aA):Sg 257 [.agg (cI n),.agg (cI m)] H (.ret (.agg (cI (n / m)))) H:=by
 refine Sp bAv (by simp only[sf,cH]) (by simp only[AV.free,cH]) ?_ H;unfold aQa;dsimp only;have hb:(m != 0)=true:=by rw[El];omega
 have hf:=ue hm hd hn
 have hq:(n / m).natAbs<2^62:=by
  obtain⟨k,rfl⟩:=hd;rw[Int.mul_ediv_cancel_left _ (by omega)]
  have :k.natAbs<=(m*k).natAbs:=by rw[Ha];exact Iu _ (by omega)
  omega
 have ho:=rA (z:=n / m) (by omega) (by omega);refine bS ?_;simp only[↓zP,zJ,seval];refine fL ?_;simp only[↓zP,zJ,seval];refine bK (sB hn _) ?_;simp only[↓zP,zJ,seval];refine fL ?_;simp only[↓zP,zJ,seval];refine bK (sB hm2 _) ?_;simp only[↓zP,zJ,seval];refine bT ?_;refine aJ fun K hK=>?_;simp only[↓zP,zG,seval,hb];refine bK (hf _) ?_;refine bK (ho _) ?_;simp only[↓zP,zJ,seval];refine Rx ?_;rfl
theorem xW {a b:aG.V} {A B:Nat} (ha:bM A a) (hb:bM B b) (hs:A+B<2^62) (H:aA):Sg 155 [.agg (bZ a),.agg (bZ b)] H (.ret (.agg (bZ (aG.sub a b)))) H:=by
 obtain⟨a1,a2,a3⟩:=ha;obtain⟨b1,b2,b3⟩:=hb;have w1:IntKind.i64.wrap (a.x -b.x)=a.x -b.x:=wrapN (B:=A+B) (by omega) (by omega);have w2:IntKind.i64.wrap (a.y -b.y)=a.y -b.y:=wrapN (B:=A+B) (by omega) (by omega);have w3:IntKind.i64.wrap (a.z -b.z)=a.z -b.z:=wrapN (B:=A+B) (by omega) (by omega);refine Sp aYw (by simp only[sf,cC]) (by simp only[sf,cC]) ?_ H;unfold aOd;dsimp only;simp only[↓zP,zJ,seval,bZ,jI,w1,w2,w3]
 (refine Rx ?_;rfl)
def uV (a b:aG.V):Bool:=decide (a.x<b.x)||(decide (a.x=b.x)&&(decide (a.y<b.y)||(decide (a.y=b.y)&&decide (a.z<b.z))))
theorem CR {a b:aG.V}:uV a b=true↔gW a b:=by unfold uV gW;simp only[Dt,Am,Bh]
theorem Sz (a b:aG.V) (H:aA):Sg 197 [.agg (bZ a),.agg (bZ b)] H (.ret (.bool (uV a b))) H:=by
 refine So aZu (by simp only[sf,cC]) ?_ H;unfold aPa;dsimp only;by_cases h0:a.x=b.x
 · have e0:(a.x != b.x)=false:=by simp[h0]
   by_cases h1:a.y=b.y
   · have e1:(a.y != b.y)=false:=(by simp[h1]);have :uV a b=decide (a.z<b.z):=(by simp[uV,h0,h1]);rw[this];simp only[↓zP,zJ,seval,bZ,jI,e0,e1]
     (refine Rx ?_;rfl)
   have e1:(a.y != b.y)=true:=(by simp[h1]);have :uV a b=decide (a.y<b.y):=(by simp[uV,h0,h1]);rw[this];simp only[↓zP,zJ,seval,bZ,jI,e0,e1]
   (refine Rx ?_;rfl)
 have e0:(a.x != b.x)=true:=by simp[h0]
 have :uV a b=decide (a.x<b.x):=by simp[uV,h0]
 rw[this];simp only[↓zP,zJ,seval,bZ,jI,e0]
 (refine Rx ?_;rfl)
theorem cd {v:aG.V} {B:Nat} (hv:bM B v) (hB:B<2^61) (H:aA):Sg 258 [.agg (bZ v)] H (.ret (.bool true)) H:=by
 refine So bAw (by simp only[sf,cC]) ?_ H;unfold aQb;dsimp only;simp only[↓zP,zJ,seval];refine bG [] (fun i vs H'=>H'=((⟨0,.nil⟩:aA).alloc (.cells (bZ v) false))) 0 3 (by decide) (by decide) (by decide) ?_ ?_ ?_ ?_ ?_
 · simp only[zB,seval]
 · rfl
 · rintro i f H1 h0 hi hk e1 rfl;simp only[↓zP,zG,seval,e1];exact tB (by omega)
 · rintro i f H1 h0 hi hk e1 rfl;have f1:f 1=.ref 0 0:=hk 1 rfl;have hg:=iM v hi;have hb:=bM.c hv i;have d1:decide (v.at i≥2305843009213693952)=false:=Ae (by omega);have d2:decide (v.at i<=-2305843009213693952)=false:=Ae (by omega);have h3:i+1<=3:=by omega
   refine aH ?_;simp only[↓zP,zJ,seval,f1,e1,aB,hi,aM,hg,d1,d2,h3]
 rintro f H1 hk rfl;simp only[↓zP,seval]
 (refine Rx ?_;rfl)
theorem aAo {Z a b c:List AV} (hZ:Z.length=54) (ha:a.length=18) (hb:b.length=18) (hc:c.length=18):
 (if 18<=Z.length then if 36<=(a++Z.drop 18).length then if 54<=((a++Z.drop 18).take 18++b++(a++Z.drop 18).drop 36).length then
   some (((a++Z.drop 18).take 18++b++(a++Z.drop 18).drop 36).take 36++c++((a++Z.drop 18).take 18++b++(a++Z.drop 18).drop 36).drop 54) else none else none else none)=some (a++(b++c)):=by
 have e1:(a++Z.drop 18).take 18=a:=by rw[Db (by omega),Bk (by omega)]
 have e2:(a++Z.drop 18).drop 36=Z.drop 36:=by rw[Ih,Bl (by omega),ha,Ix,Dk]
 rw[e1,e2];have l1:(a++b).length=36:=by simp[ha,hb]
 have e3:(a++b++Z.drop 36).take 36=a++b:=by rw[Db (by omega),Bk (by omega)]
 have e4:(a++b++Z.drop 36).drop 54=[]:=Bl (by simp[ha,hb,hZ]);rw[e3,e4,if_pos (by omega),if_pos (by simp[ha,hZ]),if_pos (by simp[ha,hb,hZ]),Bz,Cw]
theorem CH {v:aG.V} (hv:∀i,KS (v.at i)) (H:aA):Sg 157 [.agg (bZ v)] H (.ret (.agg (c3 fun i=>cI (v.at i)))) H:=by refine Sp aYy (by simp only[sf,cC]) (by simp only[sf];exact jW fun i _=>cH _) ?_ H;unfold aOf;dsimp only;have o0:∀H,Sg 90 [.int .i64 v.x] H (.ret (.agg (cI v.x))) H:=rA (hv 0).1 (hv 0).2;have o1:∀H,Sg 90 [.int .i64 v.y] H (.ret (.agg (cI v.y))) H:=rA (hv 1).1 (hv 1).2;have o2:∀H,Sg 90 [.int .i64 v.z] H (.ret (.agg (cI v.z))) H:=rA (hv 2).1 (hv 2).2;refine bS ?_;simp only[↓zP,zJ,seval];refine fL ?_;refine Dz ?_;simp only[↓zP,zJ,seval,zD,jI,bZ,zY];refine eT (o0 _) ?_;simp only[↓zP,zJ,seval,zD,jI];refine eT (o1 _) ?_;simp only[↓zP,zJ,seval,zD,jI];refine eT (o2 _) ?_;simp only[↓zP,zJ,seval,zD];rw[aAo (fO fun _ _=>dE 0) (dE _) (dE _) (dE _)];have hr:cI v.x++(cI v.y++cI v.z)=c3 fun i=>cI (v.at i):=rfl;rw[hr];have hl:(c3 fun i=>cI (v.at i)).length=54:=fO fun _ _=>dE _;have hz:(c3 fun _=>cI 0).length=54:=fO fun _ _=>dE _;simp only[zJ,seval,zD,oL hl,oL hz];refine bT ?_;simp only[↓zP,seval];refine⟨rfl,_,by simp only[↓zP,zR,seval,oL hl];rfl,?_⟩;rfl
theorem aMh {x y:Int} (hx:x.natAbs<2^31) (hy:y.natAbs<2^31):(x*y).natAbs<2^62:=by
 rw[Ha];have :=Nat.mul_lt_mul'' hx hy;have e:(2:Nat)^31*2^31=2^62:=by decide
 omega
theorem MB {a b c d:Int} (ha:a.natAbs<2^31) (hb:b.natAbs<2^31) (hc:c.natAbs<2^31) (hd:d.natAbs<2^31) (H:aA):Sg 205 [.agg (cI a),.agg (cI b),.agg (cI c),.agg (cI d)] H (.ret (.agg (cI (a*b -c*d)))) H:=by refine Sp bAc (by simp only[sf,cH]) (by simp only[AV.free,cH]) ?_ H;unfold aPi;dsimp only;have m1:=uN ha hb;have m2:=uN hc hd;have m3:=bp (aMh ha hb) (aMh hc hd);generalize a*b=p at *;generalize c*d=q at *;refine bS ?_;simp only[↓zP,zJ,seval];refine fL ?_;refine Dz ?_;simp only[↓zP,zJ,seval,zD];refine eT (m1 _) ?_;simp only[↓zP,zJ,seval,zD];refine eT (m2 _) ?_;simp only[seval];refine eT (m3 _) ?_;simp only[↓zP,zJ,seval,zD];refine bT ?_;simp only[↓zP,seval];refine Rx ?_;rfl
theorem Na (c:Nat->List AV) (h:∀i,i<3->(c i).length=18):(c3 c).length=54/\(c3 c).take 18=c 0/\((c3 c).drop 18).take 18=c 1/\((c3 c).drop 36).take 18=c 2:=
 ⟨fO h,sM h (i:=0) (by decide),sM h (i:=1) (by decide),sM h (i:=2) (by decide)⟩
theorem tc {v w:aG.V} {A B:Nat} (hv:bM A v) (hw:bM B w) (hA:A<2^31) (hB:B<2^31) (hs:3*(A*B)<2^62) (H:aA):Sg 235 [.agg (c3 fun i=>cI (v.at i)),.agg (c3 fun i=>cI (w.at i))] H (.ret (.agg (cI (aG.dot v w)))) H:=by refine Sp bAp (by simp only[sf,jW fun i _=>cH _]) (by simp only[AV.free,cH]) ?_ H;unfold aPu;dsimp only;have bv:=fun i=>bM.c hv i;have bw:=fun i=>bM.c hw i;have Tp:=bO hv.1 hw.1;have tR:=bO hv.2.1 hw.2.1;have AL:=bO hv.2.2 hw.2.2;have m0:∀H,Sg 237 [.agg (cI (v.at 0)),.agg (cI (w.at 0))] H (.ret (.agg (cI (v.x*w.x)))) H:=uN (by have :=bv 0;omega) (by have :=bw 0;omega);have m1:∀H,Sg 237 [.agg (cI (v.at 1)),.agg (cI (w.at 1))] H (.ret (.agg (cI (v.y*w.y)))) H:=uN (by have :=bv 1;omega) (by have :=bw 1;omega);have m2:∀H,Sg 237 [.agg (cI (v.at 2)),.agg (cI (w.at 2))] H (.ret (.agg (cI (v.z*w.z)))) H:=uN (by have :=bv 2;omega) (by have :=bw 2;omega);have a1:=GS (x:=v.x*w.x) (y:=v.y*w.y) (by omega) (by omega);have a2:=GS (x:=v.x*w.x+v.y*w.y) (y:=v.z*w.z) (by omega) (by omega);have e:v.x*w.x+v.y*w.y+v.z*w.z=aG.dot v w:=rfl;rw[e] at a2;have lv:=Na (fun i=>cI (v.at i)) (fun i _=>dE _);have lw:=Na (fun i=>cI (w.at i)) (fun i _=>dE _);refine bS ?_;simp only[↓zP,zJ,seval];refine fL ?_;simp only[↓zP,zJ,seval,jI,lv,lw];refine bK (m0 _) ?_;simp only[↓zP,zJ,seval];refine fL ?_;refine Dz ?_;simp only[↓zP,zJ,seval,zD,jI,lv,lw];refine eT (m1 _) ?_;simp only[seval];refine eT (a1 _) ?_;simp only[↓zP,zJ,seval,zD];refine fL ?_;refine Dz ?_;simp only[↓zP,zJ,seval,zD,jI,lv,lw];refine eT (m2 _) ?_;simp only[seval];refine eT (a2 _) ?_;simp only[↓zP,zJ,seval,zD];refine bT ?_;simp only[↓zP,seval];refine Rx ?_;rfl
theorem XP {v w:aG.V} {A B:Nat} (hv:bM A v) (hw:bM B w) (hA:A<2^31) (hB:B<2^31) (H:aA):Sg 156 [.agg (c3 fun i=>cI (v.at i)),.agg (c3 fun i=>cI (w.at i))] H (.ret (.agg (c3 fun i=>cI ((aG.aT v w).at i)))) H:=by refine Sp aYx (by simp only[sf,jW fun i _=>cH _]) (by simp only[sf];exact jW fun i _=>cH _) ?_ H;unfold aOe;dsimp only;have bv:=fun i=>bM.c hv i;have bw:=fun i=>bM.c hw i;have m0:∀H,Sg 205 [.agg (cI (v.at 1)),.agg (cI (w.at 2)),.agg (cI (v.at 2)),.agg (cI (w.at 1))] H (.ret (.agg (cI ((aG.aT v w).at 0)))) H:=MB (by have :=bv 1;omega) (by have :=bw 2;omega) (by have :=bv 2;omega) (by have :=bw 1;omega);have m1:∀H,Sg 205 [.agg (cI (v.at 2)),.agg (cI (w.at 0)),.agg (cI (v.at 0)),.agg (cI (w.at 2))] H (.ret (.agg (cI ((aG.aT v w).at 1)))) H:=MB (by have :=bv 2;omega) (by have :=bw 0;omega) (by have :=bv 0;omega) (by have :=bw 2;omega);have m2:∀H,Sg 205 [.agg (cI (v.at 0)),.agg (cI (w.at 1)),.agg (cI (v.at 1)),.agg (cI (w.at 0))] H (.ret (.agg (cI ((aG.aT v w).at 2)))) H:=MB (by have :=bv 0;omega) (by have :=bw 1;omega) (by have :=bv 1;omega) (by have :=bw 0;omega);generalize aG.aT v w=u at *;have lv:=Na (fun i=>cI (v.at i)) (fun i _=>dE _);have lw:=Na (fun i=>cI (w.at i)) (fun i _=>dE _);have hl:(c3 fun i=>cI (u.at i)).length=54:=fO fun _ _=>dE _;have hz:(c3 fun _=>cI 0).length=54:=fO fun _ _=>dE _;refine bS ?_;simp only[↓zP,zJ,seval,zY];refine fL ?_;refine Dz ?_;simp only[↓zP,zJ,seval,zD,jI,lv,lw,zY];refine eT (m0 _) ?_;simp only[↓zP,zJ,seval,zD,jI,lv,lw];refine eT (m1 _) ?_;simp only[↓zP,zJ,seval,zD,jI,lv,lw];refine eT (m2 _) ?_;simp only[↓zP,zJ,seval,zD];rw[aAo (fO fun _ _=>dE 0) (dE _) (dE _) (dE _)];have hr:cI (u.at 0)++(cI (u.at 1)++cI (u.at 2))=c3 fun i=>cI (u.at i):=rfl;rw[hr];simp only[zJ,seval,zD,oL hl,oL hz];refine bT ?_;simp only[↓zP,seval];refine⟨rfl,_,by simp only[↓zP,zR,seval,oL hl];rfl,?_⟩;rfl
theorem aJh {v w:aG.V} {A B:Nat} (hv:bM A v) (hw:bM B w) (hA:A<2^31) (hB:B<2^31) (hs:3*(A*B)<2^62) (H:aA):Sg 204 [.agg (bZ v),.agg (bZ w)] H (.ret (.agg (cI (aG.dot v w)))) H:=by
 have iv:∀i,KS (v.at i):=fun i=>by have :=bM.c hv i;unfold KS;omega
 have iw:∀i,KS (w.at i):=fun i=>by have :=bM.c hw i;unfold KS;omega
 refine Sp bAb (by simp only[sf,cC]) (by simp only[AV.free,cH]) ?_ H;unfold aPh;dsimp only;refine bS ?_;simp only[↓zP,zJ,seval];refine fL ?_;refine Dz ?_;simp only[↓zP,zJ,seval,zD,oL (aM v)];refine eT (CH iv _) ?_;simp only[↓zP,zJ,seval,zD,oL (aM w)];refine eT (CH iw _) ?_;simp only[seval];refine eT (tc hv hw hA hB hs _) ?_;simp only[↓zP,zJ,seval,zD];refine bT ?_;simp only[↓zP,seval];refine Rx ?_;rfl
theorem s9 {v w:aG.V} {A B:Nat} (hv:bM A v) (hw:bM B w) (hA:A<2^31) (hB:B<2^31) (H:aA):Sg 99 [.agg (bZ v),.agg (bZ w)] H (.ret (.agg (c3 fun i=>cI ((aG.aT v w).at i)))) H:=by
 have iv:∀i,KS (v.at i):=fun i=>by have :=bM.c hv i;unfold KS;omega
 have iw:∀i,KS (w.at i):=fun i=>by have :=bM.c hw i;unfold KS;omega
 refine Sp bIv (by simp only[sf,cC]) (by simp only[sf];exact jW fun i _=>cH _) ?_ H;unfold W99;dsimp only;have hl:(c3 fun i=>cI ((aG.aT v w).at i)).length=54:=fO fun _ _=>dE _;have hz:(c3 fun _=>cI 0).length=54:=fO fun _ _=>dE _;refine bS ?_;simp only[↓zP,zJ,seval,zY];refine fL ?_;refine Dz ?_;simp only[↓zP,zJ,seval,zD,oL (aM v)];refine eT (CH iv _) ?_;simp only[↓zP,zJ,seval,zD,oL (aM w)];refine eT (CH iw _) ?_;simp only[seval];refine eT (XP hv hw hA hB _) ?_;simp only[↓zP,zJ,seval,zD,oL hl,oL hz];refine bT ?_;simp only[↓zP,seval];refine⟨rfl,_,by simp only[↓zP,zR,seval,oL hl];rfl,?_⟩;rfl
theorem qZ {a b:aG.V} {A B:Nat} (ha:bM A a) (hb:bM B b) (hs:3*(A*B)<2^62) (H:aA):Sg 199 [.agg (bZ a),.agg (bZ b)] H (.ret (.int .i64 (aG.dot a b))) H:=by
 obtain⟨a1,a2,a3⟩:=ha;obtain⟨b1,b2,b3⟩:=hb;have m1:=bO a1 b1;have m2:=bO a2 b2;have m3:=bO a3 b3;have w1:=wrapN m1 (by omega);have w2:=wrapN m2 (by omega);have w3:=wrapN m3 (by omega);have w4:IntKind.i64.wrap (a.x*b.x+a.y*b.y)=a.x*b.x+a.y*b.y:=wrapN (B:=2*(A*B)) (by omega) (by omega);have w5:IntKind.i64.wrap (a.x*b.x+a.y*b.y+a.z*b.z)=a.x*b.x+a.y*b.y+a.z*b.z:=wrapN (B:=3*(A*B)) (by omega) (by omega);refine So aZw (by simp only[sf,cC]) ?_ H;unfold aPc;dsimp only;simp only[↓zP,zJ,Nat.reduceLT,Nat.reduceEqDiff,Nat.reduceAdd,Nat.reduceLeDiff,bZ,jI,w1,w2,w3,w4,w5]
 (refine Rx ?_;rfl)
theorem My {a b:aG.V} {A B:Nat} (ha:bM A a) (hb:bM B b) (hs:A*B<2^61) (H:aA):Sg 232 [.agg (bZ a),.agg (bZ b)] H (.ret (.agg (bZ (aG.aT a b)))) H:=by
 obtain⟨a1,a2,a3⟩:=ha;obtain⟨b1,b2,b3⟩:=hb;have w1:=wrapN (bO a2 b3) (by omega);have w2:=wrapN (bO a3 b2) (by omega);have w3:=wrapN (bO a3 b1) (by omega);have w4:=wrapN (bO a1 b3) (by omega);have w5:=wrapN (bO a1 b2) (by omega);have w6:=wrapN (bO a2 b1) (by omega);have w7:=Rz (bO a2 b3) (bO a3 b2) hs;have w8:=Rz (bO a3 b1) (bO a1 b3) hs;have w9:=Rz (bO a1 b2) (bO a2 b1) hs;refine Sp bAm (by simp only[sf,cC]) (by simp only[sf,cC]) ?_ H;unfold aPr;dsimp only;simp only[zJ,Nat.reduceLT,Nat.reduceEqDiff,Nat.reduceAdd,Nat.reduceLeDiff,bZ,jI,w1,w2,w3,w4,w5,w6,w7,w8,w9]
 (refine Rx ?_;rfl)
def gF (v:aG.V):Nat->Nat
 |0=>0
 |i+1=>Int.gcd (gF v i) (v.at i)
theorem aWc (v:aG.V):gF v 3=fX v:=by rw[<-Qd];simp only[gF,V.at,Int.gcd,Fk,Nat.gcd_zero_left]
theorem aAr {v:aG.V} {B:Nat} (h:bM B v):∀i,gF v i<=B
 |0=>Bb _
 |i+1=>WO (a:=(gF v i:Int)) (by rw[Fk];exact aAr h i) (bM.c h i)
theorem vl {v:aG.V}:fX v=0↔v=V0:=by
 constructor
 · intro h;refine Fs fun hc=>?_;have :=uU hc;omega
 rintro rfl;rfl
theorem aJd (v:aG.V) (i:Nat):(gB v).at i=v.at i / (fX v:Int):=by
 match i with
 |0=>rfl
 |1=>rfl
 |i+2=>rfl
theorem aEz (v:aG.V) (i:Nat):(fX v:Int)∣v.at i:=by
 match i with
 |0=>exact Gf ..
 |1=>exact Ho (Eo ..) (Gf ..)
 |i+2=>exact Ho (Eo ..) (Eo ..)
def Yv (n:aG.V) (e:Int):List AV:=[.int .i64 n.x,.int .i64 n.y,.int .i64 n.z,.int .i64 e]
theorem aDp {v:aG.V} {B:Nat} (hv:bM B v) (hB:B<2^60) (H:aA):Sg 233 [.agg (c3 fun i=>cI (v.at i))] H (.ret (.agg (Yv (gB v) (if v=V0 then 31 else 0)))) H:=by
 refine Sp bAn (by simp only[sf,jW fun i _=>cH _]) (by simp only[sf,Yv]) ?_ H;unfold aPs;dsimp only;have hl:=fun i (hi:i<3)=>sM (c:=fun i=>cI (v.at i)) (fun i _=>dE _) hi;have h54:(c3 fun i=>cI (v.at i)).length=54:=fO fun _ _=>dE _;have o0:=rA (z:=0) (by decide) (by decide);refine bS ?_;simp only[↓zP,zJ,Nat.reduceLT];refine fL ?_;simp only[↓zP,zI];refine bK (o0 _) ?_;simp only[↓zP,zJ,Nat.reduceLT,Nat.reduceEqDiff,Nat.reduceAdd];refine bT ?_;refine aJ fun K hK=>?_;simp only[↓zP,zG,Nat.reduceLT];refine bG [] (fun i vs H'=>H'.get 0=some (.cells (c3 fun i=>cI (v.at i)) false)/\H'.get 1=some (.cells [.int .i64 0,.int .i64 0,.int .i64 0,.int .i64 0] false)/\H'.get 2=some (.cells (cI (gF v i)) false)/\H'.next=3) 0 3 (by decide) (by decide) (by decide) ?_ ?_ ?_ ?_ ?_
 · simp only[zB];rfl
 · exact⟨by simp only[zI,Nat.reduceAdd,Nat.reduceEqDiff],by simp only[zI,Nat.reduceAdd,Nat.reduceEqDiff],by simp only[zI,Nat.reduceAdd,Nat.reduceEqDiff];rfl,by simp only[zI,Nat.reduceAdd]⟩
 · rintro i f H1 h0 hi hk e1 ⟨g0,g1,g2,gn⟩;simp only[↓zP,zJ,Nat.reduceLT,e1];exact tB (by omega)
 · rintro i f H1 h0 hi hk e1 ⟨g0,g1,g2,gn⟩;have f1:f 1=.ref 0 0:=hk 1 rfl;have f3:f 3=.ref 2 0:=hk 3 rfl;have hb:=aAr hv i;have hvb:=bM.c hv i;have hg:=bh (a:=(gF v i:Int)) (b:=v.at i) (by rw[Fk];omega) (by omega);refine aH ?_;refine Dz ?_;simp only[↓zP,zJ,Nat.reduceLT,Nat.reduceEqDiff,Nat.reduceAdd,zD,reduceCtorEq,f1,f3,e1,g0,g2,aB,hi,h54,hl i hi,show i*18+18<=54 by omega];refine eT (hg _) ?_;simp only[↓zP,zJ,Nat.reduceEqDiff,Nat.reduceAdd,zD,reduceCtorEq,f3,g2];exact⟨g0,g1,rfl,gn⟩
 rintro f H1 hk ⟨g0,g1,g2,gn⟩;rw[aWc] at g2;have f1:f 1=.ref 0 0:=hk 1 rfl;have f2:f 2=.ref 1 0:=hk 2 rfl;have f3:f 3=.ref 2 0:=hk 3 rfl;have hb:=aAr hv 3;rw[aWc] at hb;have Tp:(cI ((fX v:Nat):Int)).getD 0 aD=.bool false:=rfl;have hsg:=aDr (z:=((fX v:Nat):Int)) (aAq (by rw[Fk];omega));show K f [] H1;apply hK;clear hK K;refine bS ?_;simp only[↓zP,zJ,Nat.reduceLT,Nat.reduceLeDiff,f3,g2,Tp];refine bT ?_;refine aJ fun K hK=>?_;simp only[↓zP,zJ,Nat.reduceLT,Nat.reduceEqDiff,Nat.reduceAdd,f3,g2];refine bK (hsg _) ?_;by_cases Qq:v=V0
 · have hg0:fX v=0:=vl.2 Qq;have tR:(aEd ((fX v:Nat):Int)==0)=true:=by rw[hg0];rfl
   rw[if_pos Qq];simp only[↓zP,zJ,Nat.reduceLT,Nat.reduceEqDiff,Nat.reduceAdd,tR,f2,g1];refine⟨rfl,_,by simp only[↓zP,zR,Nat.reduceEqDiff,Nat.reduceAdd,f2];rfl,?_⟩;subst Qq;rfl
 have hgp:=uU Qq
 have tR:(aEd ((fX v:Nat):Int)==0)=false:=by rw[Ca];unfold aEd;rw[if_neg (by omega),if_neg (by omega)];decide
 rw[if_neg Qq];simp only[↓zP,zJ,Nat.reduceLT,tR];apply hK;clear hK K;refine bS ?_;simp only[↓zP,zJ,Nat.reduceLT,Nat.reduceEqDiff,Nat.reduceAdd];refine bT ?_;refine aJ fun K hK=>?_;have ZZ:=tT hv;have bKd:∀i,i<3->(AV.int .i64 ((gB v).at i))=(bZ (gB v)).getD i aD:=fun i hi=>(iM _ hi).symm;simp only[↓zP,zG,Nat.reduceLT,gn];refine bG [] (fun i vs H'=>H'.get 0=some (.cells (c3 fun i=>cI (v.at i)) false)/\H'.get 1=some (.cells [.int .i64 0,.int .i64 0,.int .i64 0,.int .i64 0] false)/\H'.get 2=some (.cells (cI ((fX v:Nat):Int)) false)/\H'.get 3=some (.cells ((bZ (gB v)).take i++[AV.int .i64 0,.int .i64 0,.int .i64 0,.int .i64 0].drop i) false)) 0 3 (by decide) (by decide) (by decide) ?_ ?_ ?_ ?_ ?_
 · simp only[zB];rfl
 · refine⟨?_,?_,?_,?_⟩
   · simp only[zI,Nat.reduceEqDiff,gn];exact g0
   · simp only[zI,Nat.reduceEqDiff,gn];exact g1
   · simp only[zI,Nat.reduceEqDiff,gn];exact g2
   simp only[zI,gn]
 · rintro i f5 H5 h0 hi WY e5 ⟨q0,q1,q2,q3⟩;simp only[↓zP,zJ,Nat.reduceLT,e5];exact tB (by omega)
 · rintro i f5 H5 h0 hi WY e5 ⟨q0,q1,q2,q3⟩;have k1:f5 1=.ref 0 0:=by rw[WY 1 rfl];simp only[zB,Nat.reduceEqDiff];exact f1
   have k3:f5 3=.ref 2 0:=(by rw[WY 3 rfl];simp only[zB,Nat.reduceEqDiff];exact f3);have k5:f5 5=.ref 3 0:=WY 5 rfl;have hvb:=bM.c hv i;have hq:=bj (n:=v.at i) (m:=((fX v:Nat):Int)) (by omega) (aEz v i) (by omega) (by rw[Fk];omega);rw[<-aJd] at hq;have hpb:=bM.c ZZ i;have hsm:=Lx (z:=(gB v).at i) (by omega) (by omega);refine aH ?_;refine bS ?_;refine Dz ?_;simp only[↓zP,zJ,Nat.reduceLT,Nat.reduceEqDiff,Nat.reduceAdd,zD,reduceCtorEq,k1,k3,e5,q0,q2,aB,hi,h54,hl i hi,show i*18+18<=54 by omega];refine eT (hq _) ?_;simp only[Nat.reduceAdd];refine eT (hsm _) ?_;simp only[↓zP,zJ,Nat.reduceLT,Nat.reduceEqDiff,Nat.reduceAdd,zD,reduceCtorEq];refine bT ?_
   match i,hi with
   |0,_=>simp only[↓zP,zJ,Nat.reduceLT,Nat.reduceEqDiff,Nat.reduceAdd,Nat.reduceLeDiff,k5,e5,aB,q3,bZ];exact⟨q0,q1,q2,rfl⟩
   |1,_=>simp only[↓zP,zJ,Nat.reduceLT,Nat.reduceEqDiff,Nat.reduceAdd,Nat.reduceLeDiff,k5,e5,aB,q3,bZ];exact⟨q0,q1,q2,rfl⟩
   |2,_=>simp only[↓zP,zJ,Nat.reduceLT,Nat.reduceEqDiff,Nat.reduceAdd,Nat.reduceLeDiff,Nat.reduceMul,k5,e5,aB,q3,bZ];exact⟨q0,q1,q2,rfl⟩
 rintro f5 H5 WY ⟨q0,q1,q2,q3⟩;have k2:f5 2=.ref 1 0:=by rw[WY 2 rfl];simp only[zB,Nat.reduceEqDiff];exact f2
 have k5:f5 5=.ref 3 0:=WY 5 rfl;have hsm:=cd ZZ (by omega);have e3:(bZ (gB v)).take 3++[AV.int .i64 0,.int .i64 0,.int .i64 0,.int .i64 0].drop 3=Yv (gB v) 0:=rfl;rw[e3] at q3;have d3:(Yv (gB v) 0).take 3=bZ (gB v):=rfl;have d4:(Yv (gB v) 0).length=4:=rfl;show K f5 [] H5;apply hK;clear hK K;refine bS ?_;simp only[↓zP,zJ,Nat.reduceLT,Nat.reduceEqDiff,Nat.reduceLeDiff,k5,q3,d3,d4];refine bK (hsm _) ?_;simp only[↓zP,zG,Nat.reduceLT];refine bT ?_;simp only[↓zP,zJ,Nat.reduceLT,Nat.reduceEqDiff,Nat.reduceAdd,k5,k2,q3,q1,d4,oL d4];refine⟨rfl,_,by simp only[↓zP,zR,Nat.reduceEqDiff,k2,oL d4];rfl,?_⟩
 first|rfl|(rw[if_neg Qq];rfl)
theorem b9 {a b c:aG.V} {M:Nat} (ha:bM M a) (hb:bM M b) (hc:bM M c) (hM:M<=2^18) (H:aA):Sg 198 [.agg (bZ a),.agg (bZ b),.agg (bZ c)] H (.ret (.agg (bZ (gB (aG.aT (aG.sub b a) (aG.sub c a)))))) H:=by
 have hu:=fM hb ha;have hw:=fM hc ha;have hn:=jX hu hw;have hMM:(M+M)*(M+M)<=2^19*2^19:=Bv (by omega) (by omega);refine Sp aZv (by simp only[sf,cC]) (by simp only[sf,cC]) ?_ H;unfold aPb;dsimp only;refine bS ?_;simp only[↓zP,zJ,seval];refine fL ?_;refine nG 1 (by decide) (by simp only[nZ,seval,zI,Option.isNone_none,Ds]) fun H1 n1 e1=>?_;simp only[zI,seval] at n1 e1;simp only[↓zP,zJ,seval,zD,e1,oL (aM a),oL (aM b)];refine eT (xW hb ha (by omega) _) ?_;simp only[↓zP,zJ,seval,zD,e1,oL (aM a),oL (aM c)];refine eT (xW hc ha (by omega) _) ?_;simp only[seval];refine eT (My hu hw (by omega) _) ?_;generalize hN:aG.aT (aG.sub b a) (aG.sub c a)=N at *;simp only[↓zP,zJ,seval,zD,n1,e1,oL (aM N)];refine bT ?_;generalize hB:2*((M+M)*(M+M))=B at *;generalize hX:(H1.set 4 _).set 4 _=H2;have g3:H2.get 3=some (.cells [.int .i64 0,.int .i64 0,.int .i64 0] false):=by subst hX;simp only[seval,zI,e1]
 have g4:H2.get 4=some (.cells (bZ N) false):=by subst hX;simp only[seval,zI]
 have gn:H2.next=5:=by subst hX;simp only[aA.aX];exact n1
 clear hX e1 n1;have iN:∀i,KS (N.at i):=fun i=>by have :=bM.c hn i;unfold KS;omega
 have hp:=aDp hn (by omega);refine bS ?_;simp only[↓zP,zJ,seval,g4,oL (aM N)];refine bK (CH iN _) ?_;refine bK (hp _) ?_;have d4:∀e,(Yv (gB N) e).length=4:=fun _=>rfl;have d3:∀e,(Yv (gB N) e).take 3=bZ (gB N):=fun _=>rfl;simp only[↓zP,zJ,seval,oL (d4 _),gn];refine bT ?_;simp only[↓zP,zJ,seval,oL (d4 _),d3,g3,gn,oL (aM (gB N))];refine⟨rfl,_,by simp only[↓zP,zR,seval,oL (aM (gB N))];rfl,?_⟩;rfl
theorem EK {α:Type} {f g:α->Bool}:∀{l:List α},(∀x∈l,f x=g x)->l.any f=l.any g
 |[],_=>rfl
 |x::l,h=>by rw[List.any_cons,List.any_cons,h x Au,EK fun y hy=>h y (Aw _ hy)]
theorem uc {l:List aG.V} {M B:Nat} (hl:∀v∈l,bM M v) (hlen:l.length<2^30) {n:aG.V} {d:Int} (hq:bM B n) (hs:3*(B*M)<2^62) (H:aA):
 Sg 201 [.aV 0 3 (bF l),.agg (bZ n),.int .i64 d] H (.ret (.bool (EH l (n,d)))) H:=by
 have Qp:Nat.blt 0 2=true:=rfl;refine So aZy (by simp only[sf,cE Qp,cC]) ?_ H;unfold aPe;dsimp only;simp only[↓zP,zJ,seval];refine bG [7] (fun i vs H'=>H'=((⟨0,.nil⟩:aA).alloc (.cells (bZ n) false))/\vs=[.bool ((l.take i).any fun v=>decide (aG.dot n v<d))]/\∀v∈l.take i,aG.dot n v<=d) 0 l.length (Bb _) (by omega) (by decide) ?_ ?_ ?_ ?_ ?_
 · simp only[zB,seval]
 · exact⟨rfl,by simp only[sm,zB,seval];rfl,fun v hv=>by simp at hv⟩
 · rintro i f H1 h0 hi hk e1 ⟨rfl,hv,hle⟩;have f0:f 0=.aV 0 3 (bF l):=hk 0 rfl;simp only[↓zP,zG,seval,e1,f0,aL];exact tB (by omega)
 · rintro i f H1 h0 hi hk e1 ⟨rfl,hv,hle⟩;simp only[zM] at hv;have f0:f 0=.aV 0 3 (bF l):=hk 0 rfl;have f2:f 2=.int .i64 d:=hk 2 rfl;have f4:f 4=.ref 0 0:=hk 4 rfl;have hg:=bY hi;have hm:=Ai hi;have hd:=qZ hq (hl _ hm) hs
   have NM:(l.take (i+1)).any (fun v=>decide (aG.dot n v<d))=((l.take i).any (fun v=>decide (aG.dot n v<d))||decide (aG.dot n l[i]<d)):=by rw[Ap,Jn];simp[hi]
   have hx:∀v,v∈l.take (i+1)->v∈l.take i\/v=l[i]:=fun v hv=>by
    rw[Ap,As] at hv
    rcases hv with h|h
    · exact .inl h
    simp[hi] at h;exact .inr h
   have tI:aG.dot n l[i]>d->EH l (n,d)=false:=fun h=>by
    unfold EH
    have :l.all (fun v=>decide (aG.dot n v<=d))=false:=by rw[Hu];exact⟨l[i],hm,by simp;omega⟩
    rw[this];rfl
   generalize (l.take i).any (fun v=>decide (aG.dot n v<d))=b at *;generalize l[i]=x at *;rw[NM];refine aH ?_;refine bS ?_;refine Dz ?_;simp only[↓zP,zJ,seval,zD,f0,f4,e1,aB,aL,hi,hg,oL (aM n),oL (aM x)];refine eT (hd _) ?_;simp only[↓zP,zJ,seval,zD];refine bT ?_;by_cases c:aG.dot n x>d
   · have c1:=Al c;simp only[↓zP,zG,seval,f2,c1];refine Rx ?_;rw[tI c];rfl
   have c1:=Ae c
   have ZT:∀v∈l.take (i+1),aG.dot n v<=d:=fun v hv=>by
    rcases hx v hv with h|rfl
    · exact hle v h
    omega
   cases b with
   |true=>simp only[↓zP,zJ,seval,f2,c1,hv,Bool.true_or];exact⟨trivial,trivial,ZT⟩
   |false=>simp only[↓zP,zJ,seval,f2,c1,hv,Bool.false_or];exact⟨trivial,trivial,ZT⟩
 rintro f H1 hk ⟨rfl,hv,hle⟩;simp only[zM] at hv;rw[Ar] at hv hle
 have :EH l (n,d)=l.any fun v=>decide (aG.dot n v<d):=by
  unfold EH
  have h1:l.all (fun v=>decide (aG.dot n v<=d))=true:=by rw[Ba];exact fun v hv=>Al (hle v hv)
  rw[h1,Cq,List.not_all_eq_any_not];refine EK fun v hv=>?_;have :=hle v hv;rw[Du,Ct,Ca,Bh];show aG.dot n v≠d↔_;omega
 rw[this];simp only[↓zP,seval,hv];refine Rx ?_;rfl
theorem XV (tag:Nat) {l:List aG.V} {M B:Nat} (hl:∀v∈l,bM M v) (hlen:l.length<2^30) {n:aG.V} {d:Int} (hq:bM B n) (hs:3*(B*M)<2^62) (H:aA):
 Sg 201 [.aV tag 3 (bF l),.agg (bZ n),.int .i64 d] H (.ret (.bool (EH l (n,d)))) H:=(uc hl hlen hq hs H).yB tag
def AI (L:aG.V×Int->List Nat) (S:List (aG.V×Int)):AV:=jQ 5 (S.map (cQ L))
theorem iV (L:aG.V×Int->List Nat) (S:List (aG.V×Int)):(S=[]/\AI L S=.aS)\/(S≠[]/\AI L S=.aV 0 5 (S.map (cQ L))):=by
 unfold AI jQ;by_cases h:S=[]
 · exact .inl ⟨h,by rw[if_pos (by simp[h])]⟩
 exact .inr ⟨h,by rw[if_neg (by simpa using h)]⟩
theorem LY (L:aG.V×Int->List Nat) (S:List (aG.V×Int)):(AI L S).free=true:=uk (dF (qP L) S)
theorem ug (L:aG.V×Int->List Nat) (S:List (aG.V×Int)) (hlen:S.length<2^30) (n:aG.V) (H:aA):
 Sg 200 [AI L S,.agg (bZ n)] H (.ret (.bool (S.any fun q=>decide (q.1=n)))) H:=by
 refine So aZx (by simp only[sf,LY,cC]) ?_ H;unfold aPd;dsimp only;simp only[↓zP,zJ,seval];refine bG [] (fun i vs H'=>H'=((⟨0,.nil⟩:aA).alloc (.cells (bZ n) false))/\∀q∈S.take i,q.1≠n) 0 S.length (Bb _) (by omega) (by decide) ?_ ?_ ?_ ?_ ?_
 · simp only[zB,seval]
 · exact⟨rfl,fun v hv=>by simp at hv⟩
 · rintro i f H1 h0 hi hk e1 ⟨rfl,bN⟩;have f0:f 0=AI L S:=hk 0 rfl
   rcases iV L S with ⟨h,e⟩|⟨h,e⟩
   · rw[e] at f0;subst h;simp only[↓zP,zG,seval,e1,f0];exact⟨trivial,trivial,Ao AV.bool (Az.2 (by simp at hi;simp[hi]))⟩
   rw[e] at f0;simp only[↓zP,zG,seval,e1,f0,Ad];exact tB (by omega)
 · rintro i f H1 h0 hi hk e1 ⟨rfl,bN⟩
   have f0:f 0=.aV 0 5 (S.map (cQ L)):=by
    rw[hk 0 rfl];simp only[zB,seval,dW,Ci]
    rcases iV L S with ⟨h,e⟩|⟨h,e⟩
    · rw[h] at hi;exact absurd hi (Ax _)
    exact e
   have f3:f 3=.ref 0 0:=hk 3 rfl;have hg:(S.map (cQ L)).getD i []=cQ L S[i]:=dT hi;have d3:(cQ L S[i]).take 3=bZ S[i].1:=rfl;have d5:(cQ L S[i]).length=5:=rfl;refine aH ?_;refine bS ?_;refine Dz ?_;simp only[↓zP,zJ,seval,zD,f0,f3,e1,aB,Ad,hi,hg,d3,d5,oL (aM n),lY];refine bT ?_;by_cases c:S[i].1=n
   · have c1:=Al c;simp only[↓zP,zG,seval,c1];refine Rx ?_;have :S.any (fun q=>decide (q.1=n))=true:=Cz.2 ⟨S[i],Ai hi,c1⟩;rw[this];rfl
   have c1:=Ae c;simp only[↓zP,zG,seval,c1];refine⟨trivial,fun q hq=>?_⟩;rw[Ap,As] at hq
   rcases hq with h|h
   · exact bN q h
   simp[hi] at h;subst h;exact c
 rintro f H1 hk ⟨rfl,bN⟩;rw[Ar] at bN
 have :S.any (fun q=>decide (q.1=n))=false:=by rw[Fo];exact fun q hq=>by simpa using bN q hq
 rw[this];simp only[↓zP,seval];refine Rx ?_;rfl
def uZ (q:aG.V×Int):List (aG.V×Int)->List (aG.V×Int)
 |[]=>[q]
 |s::r=>if uV q.1 s.1 then q::s::r else s::uZ q r
theorem UF {q:aG.V×Int}:∀{S:List (aG.V×Int)} {i:Nat},(∀s∈S.take i,uV q.1 s.1=false)->uZ q S=S.take i++uZ q (S.drop i)
 |[],i,_=>by simp
 |s::r,0,_=>by simp
 |s::r,i+1,h=>by have h1:=h s (by simp);have ih:=UF (q:=q) (S:=r) (i:=i) fun x hx=>h x (by simp[hx]);simp only[uZ,h1,Dn,Gx,Ei];rw[<-ih];rfl
theorem PJ (q:aG.V×Int):∀S:List (aG.V×Int),(uZ q S).length=S.length+1
 |[]=>rfl
 |s::r=>by
  unfold uZ;split
  · rfl
  rw[Ah,PJ q r];rfl
theorem aAm (L:aG.V×Int->List Nat) (q:aG.V×Int):(cQ L q).length=5:=rfl
theorem bx (L:aG.V×Int->List Nat) (S:List (aG.V×Int)) (hlen:S.length<2^20) (q:aG.V×Int) (H:aA):
 Sg 202 [AI L S,.agg (cQ L q)] H (.ret (.aV (H.next+2) 5 ((uZ q S).map (cQ L)))) (H.alloc .tok):=by
 have bN:uZ q S≠[]:=fun h=>by have :=PJ q S;rw[h] at this;simp at this
 refine CV dQ (by simp only[sf,LY,qP]) (by simpa using bN) (dF (qP L) _) ?_ H;refine gA fit aZz (Af rfl) ?_;unfold aPf;dsimp only;have q3:(cQ L q).take 3=bZ q.1:=rfl;have q5:=aAm L q;simp only[↓zP,zJ,seval];refine bG [5,6] (fun i vs H'=>∃v X put,vs=[v,.bool put]/\H'.get 0=some (.cells (cQ L q) false)/\1<=H'.next/\Own H' 5 v (X.map (cQ L))/\X.length<=i+1/\(if put then X++S.drop i=uZ q S else X=S.take i/\∀s∈S.take i,uV q.1 s.1=false)) 0 S.length (Bb _) (by omega) (by decide) ?_ ?_ ?_ ?_ ?_
 · simp only[zB,seval]
 · exact⟨.aS,[],false,by simp only[sm,zB,seval],by simp only[zI,seval],by simp only[zI,seval],.nil _ _,by simp,by simp⟩
 · rintro i f H1 h0 hi hk e1 ⟨v,X,put,hv,g0,gn,ho,hX,hp⟩;have f0:f 0=AI L S:=hk 0 rfl
   rcases iV L S with ⟨h,e⟩|⟨h,e⟩
   · rw[e] at f0;subst h;simp only[↓zP,zG,seval,e1,f0];exact⟨trivial,trivial,Ao AV.bool (Az.2 (by simp at hi;simp[hi]))⟩
   rw[e] at f0;simp only[↓zP,zG,seval,e1,f0,Ad];exact tB (by omega)
 · rintro i f H1 h0 hi hk e1 ⟨v,X,put,hv,g0,gn,ho,hX,hp⟩;simp only[zM] at hv
   have f0:f 0=.aV 0 5 (S.map (cQ L)):=by
    rw[hk 0 rfl];simp only[zB,seval,dW,Ci]
    rcases iV L S with ⟨h,e⟩|⟨h,e⟩
    · rw[h] at hi;exact absurd hi (Ax _)
    exact e
   have f3:f 3=.ref 0 0:=hk 3 rfl;have hg:(S.map (cQ L)).getD i []=cQ L S[i]:=dT hi;have d3:(cQ L S[i]).take 3=bZ S[i].1:=rfl;have d5:(cQ L S[i]).length=5:=rfl;have gg:=Sz q.1 S[i].1;have hdr:S.drop i=S[i]::S.drop (i+1):=Dm hi;have sH:S.take (i+1)=S.take i++[S[i]]:=(by rw[Ap];simp[hi]);rw[hdr] at hp;rw[sH]
   have hnp:(∀s∈S.take i,uV q.1 s.1=false)->uZ q S=S.take i++uZ q (S[i]::S.drop (i+1)):=fun h=>by
    have :=UF h
    rwa [hdr] at this
   generalize S[i]=s at *;generalize hT:S.take i=T at *;generalize S.drop (i+1)=D at *
   have push:∀(HA:aA) (w:AV) (Y:List (aG.V×Int)) (x:aG.V×Int),Own HA 5 w (Y.map (cQ L))->Y.length<2^21->HA.get 0=some (.cells (cQ L q) false)->1<=HA.next->
    ∃H5,dU HA 5 56 false w [cQ L x]=some (.aV (HA.next+2) 5 ((Y++[x]).map (cQ L)),H5)/\H5.get 0=some (.cells (cQ L q) false)/\1<=H5.next/\Own H5 5 (.aV (HA.next+2) 5 ((Y++[x]).map (cQ L))) ((Y++[x]).map (cQ L)):=fun HA w Y x ho hY h0 h1=>by
    obtain⟨H5,z1,z2,z3,z4,z5⟩:=Has.push (.inr ho) (ys:=[cQ L x]) (bytes:=56) rfl (by simp only[Ad,Ah,Ay];omega);refine⟨H5,by rw[z1,Ch];rfl,(z4 0 (by omega) (by rw[h0];simp)).trans h0,by omega,.inr ⟨HA.next,rfl,by omega,z3⟩⟩
   refine aH ?_;refine bS ?_;refine Dz ?_;simp only[↓zP,zJ,seval,zD,f0,f3,e1,g0,aB,Ad,hi,hg,d3,d5,q3,q5];refine eT (gg _) ?_;simp only[↓zP,zJ,seval,zD];refine bT ?_;refine aJ fun K hK=>?_
   have key:∀(f':cU) (HA:aA) (w:AV) (Y:List (aG.V×Int)) (NT:Bool),f' 5=w->f' 6=.bool NT->f' 0=.aV 0 5 (S.map (cQ L))->f' 7=.int .i64 i->HA.get 0=some (.cells (cQ L q) false)->1<=HA.next->Own HA 5 w (Y.map (cQ L))->Y.length<=i+1->
    (if NT then Y++s::D=uZ q S else Y=T/\∀s'∈T++[s],uV q.1 s'.1=false)->K f' [] HA:=by
    intro f' HA w Y NT v5 v6 v0 v7 h0 h1 hY hYl eK;apply hK;clear hK K;obtain⟨H5,z1,z2,z3,z4⟩:=push HA w Y s hY (by omega) h0 h1;simp only[↓zP,zJ,seval,v5,v0,v7,aB,Ad,hi,hg,d5,oL d5];rw[eL];simp only[z1,bP,seval,v6];refine⟨_,Y++[s],NT,rfl,z2,z3,z4,by simp;omega,?_⟩
    cases NT with
    |true=>simp only[if_true] at eK ⊢;rw[<-eK];simp
    |false=>simp only[Bj,Cm] at eK ⊢;rw[eK.1];exact⟨rfl,eK.2⟩
   clear hK
   cases put with
   |true=>simp only[if_true] at hp;simp only[↓zP,zJ,seval,hv];exact key _ H1 v X true (by simp only[zB,seval];exact hv.1) (by simp only[zB,seval];exact hv.2) (by simp only[zB,seval];exact f0) (by simp only[zB,seval];exact e1) g0 gn ho hX (by simpa using hp)
   |false=>
    simp only[Bj,Cm] at hp;obtain⟨rfl,dB⟩:=hp
    cases hb:uV q.1 s.1 with
    |false=>
     simp only[↓zP,zJ,seval,hv];refine key _ H1 v X false (by simp only[zB,seval];exact hv.1) (by simp only[zB,seval];exact hv.2) (by simp only[zB,seval];exact f0) (by simp only[zB,seval];exact e1) g0 gn ho hX ?_;simp only[Bj,Cm];refine⟨trivial,fun s' EG=>?_⟩
     rcases As.1 EG with h|h
     · exact dB s' h
     rw[Bq] at h;subst h;exact hb
    |true=>obtain⟨H5,z1,z2,z3,z4⟩:=push H1 v X q ho (by omega) g0 gn;simp only[↓zP,zJ,seval,hv,f3,g0,q5,oL q5];rw[eL];simp only[z1,bP,seval];have hXl:X.length=i:=(by rw[<-hT];simp;omega);refine key _ H5 _ (X++[q]) true (by simp only[zB,seval]) (by simp only[zB,seval]) (by simp only[zB,seval];exact f0) (by simp only[zB,seval];exact e1) z2 z3 z4 (by simp[hXl]) ?_;simp only[if_true];rw[hnp dB,uZ,if_pos hb];simp
 rintro f H1 hk ⟨v,X,put,hv,g0,gn,ho,hX,hp⟩;simp only[zM] at hv;have f3:f 3=.ref 0 0:=hk 3 rfl
 cases put with
 |true=>simp only[if_true] at hp;rw[Kb,Bz] at hp;simp only[↓zP,zJ,seval,hv];refine Rx ?_;exact⟨v,rfl,hp▸ho⟩
 |false=>simp only[Bj,Cm] at hp;obtain⟨rfl,dB⟩:=hp;obtain⟨H5,z1,z2,z3,z4,z5⟩:=Has.push (.inr ho) (ys:=[cQ L q]) (bytes:=56) rfl (by simp only[Ad,Ah,Ay];omega);simp only[↓zP,zJ,seval,hv,f3,g0,q5,oL q5];rw[eL];simp only[z1,bP,seval];refine Rx ?_;refine⟨_,rfl,?_⟩;rw[UF dB,Kb];rw[show S.take S.length++uZ q []=S.take S.length++[q] from rfl,Ch];exact .inr ⟨H1.next,rfl,by omega,z3⟩
end Go.Proofs.YtbndcmnnbiiobaaGreatDoor
