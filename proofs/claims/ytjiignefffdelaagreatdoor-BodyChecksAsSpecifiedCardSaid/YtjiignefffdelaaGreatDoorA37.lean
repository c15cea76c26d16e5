/-
  Parts of the proof of statement 4: Kzg, Kzi, Kzh, Kzj
-/
import Derived.Test.YtjiignefffdelaaGreatDoorA36
import Derived.Test.YtjiignefffdelaaGreatDoorA35
import Derived.Test.YtjiignefffdelaaGreatDoorA23
import Derived.Test.YtjiignefffdelaaGreatDoorA34
import Derived.Test.YtjiignefffdelaaGreatDoorA33
import Derived.Test.YtjiignefffdelaaGreatDoorA22
set_option linter.unusedVariables false
set_option maxRecDepth 100000
set_option maxHeartbeats 16000000
namespace Go.Proofs.YtjiignefffdelaaGreatDoor
open Go Go.Av Go.Geo
theorem aIz {l:List Geo.V} {S:List (Geo.V×Int)} {L:Geo.V×Int→List Nat} (hS:Facs l S L) (hlen:l.length≤64):∀q∈S,(L q).length≤64:=fun q hq=>by
 obtain⟨s,r,m,e,W,h⟩:=(hS.po q hq).ex;rw[h,List.length_map,List.length_range];have h1:=W.le;have h2:=List.length_filter_le (fun k=>decide (Geo.dot q.1 (l.getD k V0)=q.2)) (List.range l.length);rw[List.length_range] at h2;have h3:(onL (fun i=>l.getD i V0) l.length q.1 q.2).length≤l.length:=h2;omega
theorem aRh {L:Geo.V×Int→List Nat}:∀T:List (Geo.V×Int),(∀q∈T,(L q).length≤64)→(edL T L).length≤T.length*64:=fun T=>by
 induction T with
 |nil=>intro _;simp[edL]
 |cons q T ih=>
  intro h;have h1:=ih fun x hx=>h x (List.mem_cons_of_mem _ hx);have h2:=h q List.mem_cons_self;have h3:=dZ (fun i=>if(L q).getD i 0<(L q).getD ((i+1)%(L q).length) 0 then [((((L q).getD i 0:Nat):Int),(((L q).getD ((i+1)%(L q).length) 0:Nat):Int))] else []) 1 (fun i=>by split<;>simp) (List.range (L q).length);rw[List.length_range,Nat.mul_one] at h3;have h4:(edN (L q) (L q).length).length≤(L q).length:=h3;simp only[edL,List.flatMap_cons,List.length_append,List.length_cons,Nat.add_mul,Nat.one_mul] at h1 ⊢;omega
theorem jY {l:List Geo.V} {S:List (Geo.V×Int)} {L:Geo.V×Int→List Nat} (hS:Facs l S L) {x:Int×Int}:
 x∈edL S L↔∃q∈S,∃a b:Nat,Geo.Next (L q) a b∧a<b∧x=pN (a,b):=by
 simp only[edL,List.mem_flatMap];constructor
 · rintro⟨q,hq,hx⟩
   simp only[edN,List.mem_flatMap,List.mem_range] at hx;obtain⟨i,hi,hx⟩:=hx;split at hx
   · rename_i h
     rw[List.mem_singleton] at hx;have hi2:(i+1)%(L q).length<(L q).length:=Nat.mod_lt _ (by omega);refine⟨q,hq,(L q).getD i 0,(L q).getD ((i+1)%(L q).length) 0,⟨i,hi,?_,?_⟩,h,hx⟩
     · simp[List.getD,hi]
     · simp[List.getD,hi2]
   · cases hx
 · rintro⟨q,hq,a,b,⟨i,hi,h1,h2⟩,hab,rfl⟩
   refine⟨q,hq,?_⟩;simp only[edN,List.mem_flatMap,List.mem_range];refine⟨i,hi,?_⟩
   have e1:(L q).getD i 0=a:=by simp[List.getD,h1]
   have e2:(L q).getD ((i+1)%(L q).length) 0=b:=by simp[List.getD,h2]
   rw[e1,e2,if_pos hab];simp[pN]
theorem tX {l:List Geo.V} (hl:l.Pairwise VLt) {S:List (Geo.V×Int)} {L:Geo.V×Int→List Nat} (hS:Facs l S L) (hne:S≠[]):edL S L≠[]:=by
 obtain⟨q,r,rfl⟩:=List.exists_cons_of_ne_nil hne;have hq:=List.mem_cons_self (a:=q) (l:=r);have hF:=(hS.fl.mem q).1 hq;have hP:=hS.po q hq
 have hlen:0<(L q).length:=by
  obtain⟨s,r',m,e,W,h⟩:=hP.ex;rw[h];simpa using W.pos
 have hi2:(0+1)%(L q).length<(L q).length:=Nat.mod_lt _ hlen;have hN:Geo.Next (L q) (L q)[0] (L q)[(0+1)%(L q).length]:=⟨0,hlen,List.getElem?_eq_getElem hlen,List.getElem?_eq_getElem hi2⟩;generalize (L q)[0]=a at *;generalize (L q)[(0+1)%(L q).length]=b at *;have hsd:=hP.eB.1 hN;have hab:b≠a:=hsd.2.2.1;intro he
 rcases Nat.lt_or_ge a b with h|h
 · have :pN (a,b)∈edL (q::r) L:=(jY hS).2 ⟨q,hq,a,b,hN,h,rfl⟩
   rw[he] at this;cases this
 · obtain⟨n',d',L',F',P',hN'⟩:=hP.back (tP hl) hF hN
   have hq':=(hS.fl.mem (n',d')).2 F';have hL':=P'.uniq (hS.po _ hq');rw[hL'] at hN';have :pN (b,a)∈edL (q::r) L:=(jY hS).2 ⟨(n',d'),hq',b,a,hN',by omega,rfl⟩;rw[he] at this;cases this
theorem xT {tag:Nat} (ht:Nat.blt tag 2=true) {l:List Geo.V} (h0:chkL l=0):∃U:List Geo.V,U.length≤2^20∧(∀v,v∈U↔IsE l v)∧(∀v∈U,Near (2^19) v)∧
 (∀H,Sound Tryz.prog gv 104 [.agg [.aT tag 3 (ivE l)]] H (.ret (.aT (H.next+2) 5 ((facS l).map (facC (facL l))))) (H.alloc .tok))∧
 ∀H,Sound Tryz.prog gv 105 [.agg [.aT tag 3 (ivE l)]] H (.ret (.aT 0 3 (ivE U))) H:=by
 obtain⟨hs,_,hne,hS64,hlen,hl0,hn⟩:=jR h0;have hF:=eM hs;obtain⟨E,p1,p2,p3⟩:=aMt ht hn (Nat.le_refl _) hlen hF hne hS64;have hE:∀x∈E,∃q∈facS l,∃a b:Nat,Geo.Next (facL l q) a b∧a<b∧x=pN (a,b):=fun x hx=>(jY hF).1 (p1.mem_iff.1 hx)
 have hmap:E=(E.map fun x=>(x.1.toNat,x.2.toNat)).map pN:=by
  rw[List.map_map];refine(List.map_id E).symm.trans (List.map_congr_left fun x hx=>?_);obtain⟨q,hq,a,b,_,_,rfl⟩:=hE x hx;simp[pN]
 have hElen:E.length≤2^20:=by
  rw[p1.length_eq];have :=aRh (L:=facL l) (facS l) (aIz hF hlen);have :(facS l).length*64≤64*64:=Nat.mul_le_mul hS64 (Nat.le_refl _);omega
 have hE0:E≠[]:=fun h=>tX hs hF hne (by rw[h] at p1;exact List.Perm.eq_nil p1.symm);generalize hE':(E.map fun x=>(x.1.toNat,x.2.toNat))=E' at *
 have hm':∀p:Nat×Nat,p∈E'↔∃q∈facS l,Geo.Next (facL l q) p.1 p.2∧p.1<p.2:=fun p=>by
  rw[←hE',List.mem_map];constructor
  · rintro⟨x,hx,rfl⟩
    obtain⟨q,hq,a,b,h1,h2,rfl⟩:=hE x hx;exact⟨q,hq,by simpa [pN] using h1,by simpa [pN] using h2⟩
  · rintro⟨q,hq,h1,h2⟩
    exact⟨pN p,p1.mem_iff.2 ((jY hF).2 ⟨q,hq,p.1,p.2,h1,h2,rfl⟩),by simp[pN]⟩
 have hon:∀q∈facS l,∀a b,Geo.Next (facL l q) a b→a<l.length∧b<l.length:=fun q hq a b h=>by
  have h1:=(hF.po q hq).eB.1 h;exact⟨(bO.1 h1.1).1,(bO.1 h1.2.1).1⟩
 refine⟨E'.map (edV l),?_,?_,?_,fun H=>qV ht hn (Nat.le_refl _) hlen hF hne H,fun H=>aJu ht hn (Nat.le_refl _) (E:=E') ?_ ?_ ?_ ?_ H⟩
 · rw[List.length_map,←hE',List.length_map];exact hElen
 · intro v
   rw[List.mem_map];constructor
   · rintro⟨p,hp,rfl⟩
     obtain⟨q,hq,h1,h2⟩:=(hm' p).1 hp;have h3:=(hF.po q hq).eB.1 h1;exact⟨q,(hF.fl.mem q).1 hq,p.1,p.2,h3.2,h3.1,h2,rfl⟩
   · rintro⟨q,hq,a,b,h1,h2,h3,rfl⟩
     have hq':=(hF.fl.mem q).2 hq;exact⟨(a,b),(hm' (a,b)).2 ⟨q,hq',(hF.po q hq').eB.2 ⟨h2,h1⟩,h3⟩,rfl⟩
 · intro v hv
   obtain⟨p,hp,rfl⟩:=List.mem_map.1 hv;obtain⟨q,hq,h1,h2⟩:=(hm' p).1 hp;obtain⟨b1,b2⟩:=hon q hq _ _ h1
   have hg:∀k,k<l.length→Near (2^18) (l.getD k V0):=fun k hk=>by
    have :l.getD k V0=l[k]:=by simp[List.getD,hk]
    rw[this];exact hn _ (List.getElem_mem hk)
   exact cH (hg _ b2) (hg _ b1)
 · rw[←hE',List.length_map];exact hElen
 · intro e
   rw[←hE',List.map_eq_nil_iff] at e;exact hE0 e
 · intro p hp
   obtain⟨q,hq,h1,h2⟩:=(hm' p).1 hp;exact hon q hq _ _ h1
 · rw[←hmap];exact p3
theorem zL {ta tb:Nat} (hta:Nat.blt ta 2=true) (htb:Nat.blt tb 2=true) {a b:List Geo.V} (ha:chkL a=0) (hb:chkL b=0) (H:Heap):
 Sound Tryz.prog gv 21 [.agg [.aT ta 3 (ivE a)],.agg [.aT tb 3 (ivE b)]] H (.ret (.bool (disB a b))) H:=by
 obtain⟨U,lU,mU,nU,fa,ea⟩:=xT hta ha;obtain⟨W,lW,mW,nW,fb,eb⟩:=xT htb hb;obtain⟨sa,_,ha1,ha2,ha3,ha4,na⟩:=jR ha;obtain⟨sb,_,hb1,hb2,hb3,hb4,nb⟩:=jR hb;have hFa:=eM sa;have hFb:=eM sb
 have hmem:∀n,n∈dirs (facS a) (facS b) U W↔IsD a b n:=fun n=>by
  have m1:∀(l:List Geo.V) (hs:l.Pairwise VLt),n∈(facS l).map (·.1)↔∃d,IsF (fun i=>l.getD i V0) l.length n d:=fun l hs=>by
   rw[List.mem_map];constructor
   · rintro⟨q,hq,rfl⟩
     exact⟨q.2,((gN l).mem q).1 hq⟩
   · rintro⟨d,hd⟩
     exact⟨(n,d),((gN l).mem (n,d)).2 hd,rfl⟩
  have m2:n∈crs U W↔∃u w,IsE a u∧IsE b w∧n=Geo.cross u w∧n≠V0:=by
   simp only[crs,List.mem_flatMap,List.mem_filterMap];constructor
   · rintro⟨u,hu,w,hw,h⟩
     split at h
     · cases h
     · rename_i hc
       obtain rfl:=Option.some.inj h;exact⟨u,w,(mU u).1 hu,(mW w).1 hw,rfl,hc⟩
   · rintro⟨u,w,hu,hw,rfl,hn⟩
     exact⟨u,(mU u).2 hu,w,(mW w).2 hw,by rw[if_neg hn]⟩
  unfold dirs IsD;rw[List.map_append,List.mem_append,List.mem_append,m1 a sa,m1 b sb,m2,or_assoc]
 have hval:disB a b=(dirs (facS a) (facS b) U W).any (sepD a b):=by
  rw[Bool.eq_iff_iff,List.any_eq_true];rw[fC];exact exists_congr fun n=>and_congr_left' (hmem n).symm
 rw[hval];refine aBb hta htb na nb (Nat.le_refl _) (by omega) (by omega) ha4 hb4 (MU:=2^19) (by decide) fa fb ea eb nU nW ha2 hb2 hb1 lU lW (B:=2*(2^19*2^19)) (fun n hn=>?_) (by decide) H
 rcases(hmem n).1 hn with ⟨d,h⟩|⟨d,h⟩|⟨u,w,hu,hw,rfl,_⟩
 · exact fL (q:=(n,d)) na h
 · exact fL (q:=(n,d)) nb h
 · exact dJ (nU u ((mU u).2 hu)) (nW w ((mW w).2 hw))
def plX (l:List Geo.V) (q:Geo.V×Int):List Nat:=polyX (onL (fun i=>l.getD i V0) l.length q.1 q.2) (nxt q.1 (fun i=>l.getD i V0) (onL (fun i=>l.getD i V0) l.length q.1 q.2))
theorem zM {l:List Geo.V} (hl:l.Pairwise VLt) {q:Geo.V×Int} (hq:q∈facS l):facL l q=plX l q:=aSq ((eM hl).po q hq)
theorem zN {l:List Geo.V} {S:List (Geo.V×Int)} (h:chkF (fun i=>l.getD i V0) l.length S=true):facS l=S:=(gN l).uniq (jU h)
theorem aDt {S:List (Geo.V×Int)} {L L':Geo.V×Int→List Nat} (h:∀q∈S,L q=L' q) (k:Nat):usedB S L k=usedB S L' k:=by
 unfold usedB;rw[Bool.eq_iff_iff,List.any_eq_true,List.any_eq_true];constructor
 · rintro⟨q,hq,hk⟩;exact⟨q,hq,by rw[←h q hq];exact hk⟩
 · rintro⟨q,hq,hk⟩;exact⟨q,hq,by rw[h q hq];exact hk⟩
theorem aEn (l C:List Geo.V) {S:List (Geo.V×Int)} {L L':Geo.V×Int→List Nat} (h:∀q∈S,L q=L' q):chkP l C S L=chkP l C S L':=by
 have hL:hullL C S L=hullL C S L':=by
  unfold hullL;rw[show usedB S L=usedB S L' from funext (aDt h)]
 have hO:hullO l C S L=hullO l C S L':=by unfold hullO;rw[hL]
 unfold chkP;rw[hO,hL]
def srtL:List Geo.V→Bool
 |[]=>true
 |v::r=>(r.all fun x=>ltV v x)&&srtL r
theorem qO:∀{l:List Geo.V},srtL l=true→l.Pairwise VLt
 |[],_=>.nil
 |q::r,h=>by
  simp only[srtL,Bool.and_eq_true,List.all_eq_true] at h;exact List.pairwise_cons.2 ⟨fun x hx=>aIb.1 (h.1 x hx),qO h.2⟩
theorem zB {l:List Geo.V} {S:List (Geo.V×Int)} (hl:srtL l=true) (h:chkF (fun i=>l.getD i V0) l.length S=true):chkL l=chkP l l S (plX l):=by
 have hs:=qO hl;unfold chkL;rw[uW hs,aEn l l (S:=facS l) fun q hq=>zM hs hq,zN h]
theorem aNt {l:List Geo.V} {S:List (Geo.V×Int)} (hl:srtL l=true) (h:chkF (fun i=>l.getD i V0) l.length S=true):Facs l S (plX l) where
 fl:=jU h
 po q hq:=by
  have hq':q∈facS l:=by rw[zN h];exact hq
  have :=(eM (qO hl)).po q hq'
  rwa [zM (qO hl) hq'] at this
def edX (l:List Geo.V) (S:List (Geo.V×Int)):List Geo.V:=(edL S (plX l)).map fun x=>Geo.sub (l.getD x.2.toNat V0) (l.getD x.1.toNat V0)
theorem xD {L L':Geo.V×Int→List Nat}:∀{S:List (Geo.V×Int)},(∀q∈S,L q=L' q)→edL S L=edL S L'
 |[],_=>rfl
 |q::S,h=>by
  have ih:=xD (S:=S) fun x hx=>h x (List.mem_cons_of_mem _ hx);unfold edL at ih ⊢;rw[List.flatMap_cons,List.flatMap_cons,ih,h q List.mem_cons_self]
theorem sW {l:List Geo.V} {S:List (Geo.V×Int)} (hl:srtL l=true) (h:chkF (fun i=>l.getD i V0) l.length S=true) {v:Geo.V}:IsE l v↔v∈edX l S:=by
 have hs:=qO hl;have hF:=eM hs;have hS:=zN h
 have he:edL S (plX l)=edL (facS l) (facL l):=by rw[hS];exact(xD fun q hq=>zM hs (by rw[hS];exact hq)).symm
 unfold edX;rw[he,List.mem_map];constructor
 · rintro⟨q,hq,a,b,h1,h2,h3,rfl⟩
   have hq':=(hF.fl.mem q).2 hq;exact⟨pN (a,b),(jY hF).2 ⟨q,hq',a,b,(hF.po q hq').eB.2 ⟨h2,h1⟩,h3,rfl⟩,by simp[pN]⟩
 · rintro⟨x,hx,rfl⟩
   obtain⟨q,hq,a,b,h1,h2,rfl⟩:=(jY hF).1 hx;have h3:=(hF.po q hq).eB.1 h1;exact⟨q,(hF.fl.mem q).1 hq,a,b,h3.2,h3.1,h2,by simp[pN]⟩
theorem zK {a b:List Geo.V} {S T:List (Geo.V×Int)} (ha:srtL a=true) (hb:srtL b=true) (hS:chkF (fun i=>a.getD i V0) a.length S=true) (hT:chkF (fun i=>b.getD i V0) b.length T=true):
 disB a b=(dirs S T (edX a S) (edX b T)).any (sepD a b):=by
 have hmem:∀n,n∈dirs S T (edX a S) (edX b T)↔IsD a b n:=fun n=>by
  have m1:∀(l:List Geo.V) (S:List (Geo.V×Int)),chkF (fun i=>l.getD i V0) l.length S=true→(n∈S.map (·.1)↔∃d,IsF (fun i=>l.getD i V0) l.length n d):=fun l S h=>by
   have hf:=jU h;rw[List.mem_map];constructor
   · rintro⟨q,hq,rfl⟩
     exact⟨q.2,(hf.mem q).1 hq⟩
   · rintro⟨d,hd⟩
     exact⟨(n,d),(hf.mem (n,d)).2 hd,rfl⟩
  have m2:n∈crs (edX a S) (edX b T)↔∃u w,IsE a u∧IsE b w∧n=Geo.cross u w∧n≠V0:=by
   simp only[crs,List.mem_flatMap,List.mem_filterMap];constructor
   · rintro⟨u,hu,w,hw,h⟩
     split at h
     · cases h
     · rename_i hc
       obtain rfl:=Option.some.inj h;exact⟨u,w,(sW ha hS).2 hu,(sW hb hT).2 hw,rfl,hc⟩
   · rintro⟨u,w,hu,hw,rfl,hn⟩
     exact⟨u,(sW ha hS).1 hu,w,(sW hb hT).1 hw,by rw[if_neg hn]⟩
  unfold dirs IsD;rw[List.map_append,List.mem_append,List.mem_append,m1 a S hS,m1 b T hT,m2,or_assoc]
 rw[Bool.eq_iff_iff,List.any_eq_true,fC];exact exists_congr fun n=>and_congr_left' (hmem n).symm
def cubeV (o:Int) (p:Int):List Geo.V:=[⟨o,p,p⟩,⟨o,p,p+2⟩,⟨o,p+2,p⟩,⟨o,p+2,p+2⟩,⟨o+2,p,p⟩,⟨o+2,p,p+2⟩,⟨o+2,p+2,p⟩,⟨o+2,p+2,p+2⟩]
def cubeS (o:Int) (p:Int):List (Geo.V×Int):=[(⟨-1,0,0⟩,-o),(⟨0,-1,0⟩,-p),(⟨0,0,-1⟩,-p),(⟨0,0,1⟩,p+2),(⟨0,1,0⟩,p+2),(⟨1,0,0⟩,o+2)]
theorem mH:chkF (fun i=>(cubeV 0 0).getD i V0) (cubeV 0 0).length (cubeS 0 0)=true:=by decide+kernel
theorem aHi:chkF (fun i=>(cubeV 1 1).getD i V0) (cubeV 1 1).length (cubeS 1 1)=true:=by decide+kernel
theorem aHk:chkF (fun i=>(cubeV 2 0).getD i V0) (cubeV 2 0).length (cubeS 2 0)=true:=by decide+kernel
theorem mI:srtL (cubeV 0 0)=true:=by decide+kernel
theorem aHj:srtL (cubeV 1 1)=true:=by decide+kernel
theorem aHl:srtL (cubeV 2 0)=true:=by decide+kernel
theorem mJ:chkL (cubeV 0 0)=0:=by rw[zB mI mH];decide+kernel
theorem aKj:chkL (cubeV 1 1)=0:=by rw[zB aHj aHi];decide+kernel
theorem aKk:chkL (cubeV 2 0)=0:=by rw[zB aHl aHk];decide+kernel
theorem aEx:disB (cubeV 0 0) (cubeV 0 0)=false:=by rw[zK mI mI mH mH];decide+kernel
theorem aEy:disB (cubeV 0 0) (cubeV 1 1)=false:=by rw[zK mI aHj mH aHi];decide+kernel
theorem aEz:disB (cubeV 0 0) (cubeV 2 0)=true:=by rw[zK mI aHl mH aHk];decide+kernel
attribute [local congr] aU aN aO aM aW aR aP aL
attribute [local irreducible] FC FOps FD2
def PartR (p:AV×List Geo.V):Prop:=(p.1=.nilsl∧p.2=[])∨p.1=.aT 0 3 (ivE p.2)
def pvE (ps:List (AV×List Geo.V)):List (List AV):=ps.map fun p=>[p.1]
def PartsR (pv:AV) (ps:List (AV×List Geo.V)):Prop:=(pv=.nilsl∧ps=[])∨pv=.aT 0 1 (pvE ps)
theorem PartR.free {p:AV×List Geo.V} (h:PartR p):p.1.free=true:=by
 rcases h with ⟨h,_⟩|h
 · rw[h];rfl
 · rw[h];exact bG rfl _
theorem qI {ps:List (AV×List Geo.V)} (h:∀p∈ps,PartR p):freeLL (pvE ps)=true:=by
 induction ps with
 |nil=>simp only[pvE,List.map_nil,freeLL]
 |cons p ps ih=>
  have h1:=(h p List.mem_cons_self).free;have h2:=ih fun x hx=>h x (List.mem_cons_of_mem _ hx);simp only[pvE] at h2;simp only[pvE,List.map_cons,freeLL,freeL,h1,h2,Bool.and_self]
theorem PartsR.free {pv:AV} {ps:List (AV×List Geo.V)} (h:PartsR pv ps) (hp:∀p∈ps,PartR p):pv.free=true:=by
 rcases h with ⟨h,_⟩|h
 · rw[h];rfl
 · rw[h];simp only[AV.free,qI hp];rfl
def farV (v:Geo.V):Bool:=(decide (v.x>4096)||decide (v.x< -4096))||((decide (v.y>4096)||decide (v.y< -4096))||(decide (v.z>4096)||decide (v.z< -4096)))
noncomputable def partE (l:List Geo.V):Int:=if chkL l≠0 then chkL l else if l.any farV then 1 else 0
def badN (m0 m1 r0 r1:Int):Bool:=decide (m0<1)||(decide (m1<m0)||(decide (m1>1099511627776)||(decide (r0<0)||(decide (r1<r0)||decide (r1>4000)))))
noncomputable def overB (ps:List (List Geo.V)):Bool:=(List.range ps.length).any fun i=>(List.range i).any fun k=> !disB (ps.getD i []) (ps.getD k [])
noncomputable def restB (ps:List (List Geo.V)):Int:=match ps.find? fun l=> !decide (partE l=0) with
 |some l=>partE l
 |none=>if overB ps then 150 else 0
noncomputable def chkB (name:List UInt8) (ps:List (List Geo.V)) (m0 m1 r0 r1:Int):Int:=
 if validN name=false then 5 else if ps.length<1∨8<ps.length then 2 else if badN m0 m1 r0 r1=true then 1 else restB ps
theorem vH {ls:List (List Geo.V)} {i:Nat} (hi:i<ls.length) (h:∀j (hj:j<i),partE (ls[j]'(Nat.lt_trans hj hi))=0) (he:partE ls[i]≠0):restB ls=partE ls[i]:=by
 have :ls.find? (fun l=> !decide (partE l=0))=some ls[i]:=by
  rw[List.find?_eq_some_iff_getElem];exact⟨by simp[he],i,hi,rfl,fun j hj=>by simp[h j hj]⟩
 unfold restB;rw[this]
theorem kJ {ls:List (List Geo.V)} (h:∀l∈ls,partE l=0):restB ls=if overB ls then 150 else 0:=by
 have :ls.find? (fun l=> !decide (partE l=0))=none:=by
  rw[List.find?_eq_none]
  exact fun l hl=>by simp[h l hl]
 unfold restB;rw[this]
theorem aIo {l:List Geo.V} (h:partE l=0):chkL l=0∧∀v∈l,farV v=false:=by
 unfold partE at h;split at h
 · rename_i h1;exact absurd h h1
 · rename_i h1
   split at h
   · cases h
   · rename_i h2
     exact⟨Decidable.not_not.1 h1,fun v hv=>by
      cases hf:farV v with
      |false=>rfl
      |true=>exact absurd (List.any_eq_true.2 ⟨v,hv,hf⟩) h2⟩
theorem oF {ls:List (List Geo.V)} {i k:Nat} (hi:i<ls.length) (hk:k<i) (h:disB ls[i] (ls[k]'(Nat.lt_trans hk hi))=false):overB ls=true:=by
 unfold overB;rw[List.any_eq_true];refine⟨i,List.mem_range.2 hi,?_⟩;rw[List.any_eq_true];refine⟨k,List.mem_range.2 hk,?_⟩;have hk':=Nat.lt_trans hk hi;simp only[List.getD,List.getElem?_eq_getElem hi,List.getElem?_eq_getElem hk',Option.getD_some,h,Bool.not_false]
theorem lV {ls:List (List Geo.V)} (h:∀i k (hi:i<ls.length) (hk:k<i),disB ls[i] (ls[k]'(Nat.lt_trans hk hi))=true):overB ls=false:=by
 unfold overB;rw[List.any_eq_false];intro i hi;rw[List.mem_range] at hi;simp only[Bool.not_eq_true];rw[List.any_eq_false];intro k hk;rw[List.mem_range] at hk;have hk':=Nat.lt_trans hk hi;simp only[List.getD,List.getElem?_eq_getElem hi,List.getElem?_eq_getElem hk',Option.getD_some,h i k hi hk];decide
theorem wQ {p:AV×List Geo.V} (h:PartR p) (hlen:p.2.length<2^30) (H:Heap):Sound Tryz.prog gv 23 [.agg [p.1]] H (.ret (.int .i64 (chkL p.2))) H:=by
 rcases h with ⟨h1,h2⟩|h1
 · rw[h1,h2,pD]
   exact wR H
 · rw[h1]
   exact zS rfl hlen (jM _) (eM (jM _).srt) H
def bodyC (name:List UInt8) (pv:AV) (m0 m1 r0 r1:Int):List AV:=[.str name,pv,.int .i64 m0,.int .i64 m1,.int .i64 r0,.int .i64 r1]
theorem qS {name:List UInt8} (hname:name.length<2^63) {ps:List (AV×List Geo.V)} (hps:∀p∈ps,PartR p) (hlen:∀p∈ps,p.2.length<2^30) (hpl:ps.length<2^30) (m0 m1 r0 r1:Int) (H:Heap):
 Sound Tryz.prog gv 6 [.agg (bodyC name (.aT 0 1 (pvE ps)) m0 m1 r0 r1)] H (.ret (.int .i64 (chkB name (ps.map (·.2)) m0 m1 r0 r1))) H:=by
 have hfr:freeL [AV.agg (bodyC name (.aT 0 1 (pvE ps)) m0 m1 r0 r1)]=true:=by simp only[sf,bodyC,qI hps]
 refine Sp is6 hfr (by simp only[sf]) ?_ H;have hll:(ps.map (·.2)).length=ps.length:=List.length_map _;unfold W6;dsimp only;have hpe:(pvE ps).length=ps.length:=List.length_map _
 have d1:decide ((ps.length:Int)<1)=decide (ps.length<1):=by rw[decide_eq_decide];omega
 have d2:decide ((ps.length:Int)>8)=decide (8<ps.length):=by rw[decide_eq_decide];omega
 refine aA fun K hK=>?_;simp only[↓zP,zG,Nat.reduceLT,zI,bodyC];apply hK;clear hK K;refine aA fun K hK=>?_;refine aI ?_;refine aA fun K2 hK2=>?_;simp only[↓zP,zG,Nat.reduceLT,Nat.reduceEqDiff,Nat.reduceAdd,zI,Nat.reduceLeDiff];have hvo:=aDv name hname
 cases hv:validN name with
 |false=>
  rw[hv] at hvo;refine bF (hvo _) ?_;simp only[↓zP,zG,Nat.reduceLT,zI];apply hK2;clear hK2 K2;simp only[↓zP,zG,Nat.reduceLT];refine⟨rfl,_,by simp only[↓zP,zR];rfl,?_⟩;unfold chkB;rw[if_pos hv];rfl
 |true=>
 rw[hv] at hvo;refine bF (hvo _) ?_;simp only[↓zP,zG,Nat.reduceLT,zI];apply hK2;clear hK2 K2;refine mF false (by simp only[aC]) (fun h=>by cases h) (fun _=>?_);refine aA fun K2 hK2=>?_
 cases h1:decide (ps.length<1) with
 |true=>
  rw[h1] at d1;simp only[↓zP,zG,Nat.reduceLT,Nat.reduceEqDiff,Nat.reduceAdd,zI,Nat.reduceLeDiff,hpe,d1];apply hK2;clear hK2 K2;simp only[↓zP,zG,Nat.reduceLT];refine⟨rfl,_,by simp only[↓zP,zR];rfl,?_⟩;unfold chkB;rw[if_neg (by rw[hv];decide),if_pos (.inl (by rw[hll];exact of_decide_eq_true h1))];rfl
 |false=>
 rw[h1] at d1
 cases h2:decide (8<ps.length) with
 |true=>
  rw[h2] at d2;simp only[↓zP,zG,Nat.reduceLT,Nat.reduceEqDiff,Nat.reduceAdd,zI,Nat.reduceLeDiff,hpe,d1,d2];apply hK2;clear hK2 K2;simp only[↓zP,zG,Nat.reduceLT];refine⟨rfl,_,by simp only[↓zP,zR];rfl,?_⟩;unfold chkB;rw[if_neg (by rw[hv];decide),if_pos (.inr (by rw[hll];exact of_decide_eq_true h2))];rfl
 |false=>
 rw[h2] at d2
 have hB1:badN m0 m1 r0 r1=true→chkB name (ps.map (·.2)) m0 m1 r0 r1=1:=fun hb=>by
  unfold chkB;rw[if_neg (by rw[hv];decide),if_neg (by rw[hll];intro h;rcases h with h|h;exact of_decide_eq_false h1 h;exact of_decide_eq_false h2 h),if_pos hb]
 have hB0:badN m0 m1 r0 r1=false→chkB name (ps.map (·.2)) m0 m1 r0 r1=restB (ps.map (·.2)):=fun hb=>by
  unfold chkB;rw[if_neg (by rw[hv];decide),if_neg (by rw[hll];intro h;rcases h with h|h;exact of_decide_eq_false h1 h;exact of_decide_eq_false h2 h),if_neg (by rw[hb];decide)]
 unfold badN at hB1 hB0
 have key:∀f':Slt,chkB name (ps.map (·.2)) m0 m1 r0 r1=(restB (ps.map (·.2)))→f' 1=.ref 0 0→K f' [] ((⟨0,.nil⟩:Heap).alloc (.cells [.str name,.aT 0 1 (pvE ps),.int .i64 m0,.int .i64 m1,.int .i64 r0,.int .i64 r1] false)):=by
  intro f' hval f1;rw[hval] at hK;apply hK;clear hK hK2 K2 K hB1 hB0
  have hF:∀i (hi:i<ps.length),(∀j (hj:j<i),partE (ps[j]'(Nat.lt_trans hj hi)).2=0)→partE ps[i].2≠0→restB (ps.map (·.2))=partE ps[i].2:=fun i hi h1 h2=>by
   have :=vH (ls:=ps.map (·.2)) (i:=i) (by rw[hll];exact hi) (fun j hj=>by rw[List.getElem_map];exact h1 j hj) (by rw[List.getElem_map];exact h2);rw[this,List.getElem_map]
  simp only[↓zP,zG,Nat.reduceLT,Nat.reduceAdd,zI,Nat.reduceLeDiff,f1,hpe];refine bD [] (fun i vs H'=>(∀j (hj:j<i) (hl:j<ps.length),partE ps[j].2=0)∧H'.get 0=some (.cells [.str name,.aT 0 1 (pvE ps),.int .i64 m0,.int .i64 m1,.int .i64 r0,.int .i64 r1] false)∧1≤H'.next) ps.length (by omega) (by decide) ?_ ?_ ?_ ?_ ?_
  · simp only[aC]
  · simp only[aC,ne_eq,Nat.reduceEqDiff,not_false_eq_true]
  · exact⟨fun j hj=>absurd hj (Nat.not_lt_zero _),by simp only[zI],by simp only[zI,Nat.reduceLeDiff]⟩
  · rintro i f H1 hi hk e1 ⟨hJ,g0,hn⟩
    have hg:(pvE ps).getD i []=[ps[i].1]:=bU hi;have hp:=hps _ (List.getElem_mem hi);have hl:=hlen _ (List.getElem_mem hi);have hFi:=hF i hi (fun j hj=>hJ j hj (Nat.lt_trans hj hi))
    have hJn:partE ps[i].2=0→∀j (hj:j<i+1) (hl:j<ps.length),partE ps[j].2=0:=fun h j hj hl=>by
     by_cases e:j=i
     · subst e;exact h
     · exact hJ j (by omega) hl
    generalize ps[i]=p at *;obtain⟨pv,l⟩:=p;simp only at hg hp hl hFi hJn;have hc:=wQ hp hl;simp only at hc
    have nx0:¬(0=H1.next):=by omega
    refine aI ?_;refine aA fun K2 hK2=>?_;simp only[↓zP,zG,Nat.reduceLT,Nat.reduceEqDiff,zI,e1,hk 70 rfl,aD,hpe,hi,hg];apply hK2;clear hK2 K2;refine aA fun K2 hK2=>?_;simp only[↓zP,zG,Nat.reduceLT,Nat.reduceEqDiff,zI];refine bF (hc _) ?_;by_cases he:chkL l=0
    · have hb:(chkL l != 0)=false:=by simp[he]
      obtain⟨_,_,_,_,_,hl0,hnear⟩:=jR he
      obtain⟨rfl⟩:pv=.aT 0 3 (ivE l):=by
       rcases hp with ⟨_,h⟩|h
       · exact absurd h hl0
       · exact h
      have hpe0:l.any farV=false→partE l=0:=fun h=>by
       unfold partE;rw[if_neg (by simp[he]),h];rfl
      have hpe1:l.any farV=true→partE l=1:=fun h=>by
       unfold partE;rw[if_neg (by simp[he]),h];rfl
      simp only[↓zP,zG,Nat.reduceLT,zI,hb];apply hK2;clear hK2 K2;simp only[↓zP,zG,Nat.reduceLT,Nat.reduceEqDiff,zI,aJ];generalize hX:(H1.alloc _).set H1.next _=H4
      have y0:H4.get 0=some (.cells [.str name,.aT 0 1 (pvE ps),.int .i64 m0,.int .i64 m1,.int .i64 r0,.int .i64 r1] false):=by subst hX;rw[Heap.aB,if_neg nx0,Heap.aH,if_neg nx0];exact g0
      have yn:1≤H4.next:=by subst hX;simp only[Heap.aS,Heap.aX];omega
      clear hX;refine bD [] (fun j vs H'=>(∀k (hk:k<j) (hl:k<l.length),farV l[k]=false)∧H'.get 0=some (.cells [.str name,.aT 0 1 (pvE ps),.int .i64 m0,.int .i64 m1,.int .i64 r0,.int .i64 r1] false)∧1≤H'.next) l.length (by omega) (by decide) ?_ ?_ ?_ ?_ ?_
      · simp only[aC]
      · simp only[aC,ne_eq,Nat.reduceEqDiff,not_false_eq_true]
      · exact⟨fun k hk=>absurd hk (Nat.not_lt_zero _),y0,yn⟩
      · rintro j f2 H2 hj hk2 e2 ⟨hJ2,g02,hn2⟩
        have hgv:=bC hj
        have hJ2n:farV l[j]=false→∀k (hk:k<j+1) (hl:k<l.length),farV l[k]=false:=fun h k hk hl=>by
         by_cases e:k=j
         · subst e;exact h
         · exact hJ2 k (by omega) hl
        have hfar1:farV l[j]=true→l.any farV=true:=fun h=>List.any_eq_true.2 ⟨l[j],List.getElem_mem hj,h⟩;generalize l[j]=v at *
        have nx2:¬(0=H2.next):=by omega
        have v0:(ivC v).getD 0 undefA=.int .i64 v.x:=rfl;have v1:(ivC v).getD 1 undefA=.int .i64 v.y:=rfl;have v2:(ivC v).getD 2 undefA=.int .i64 v.z:=rfl;have w0:=aFg v.x 4096 (by decide);have w1:=aFg v.y 4096 (by decide);have w2:=aFg v.z 4096 (by decide);rw[show(-4096:Int)= -(4096) from rfl] at *;unfold farV at hJ2n hfar1;refine aI ?_;refine aA fun K2 hK2=>?_;simp only[↓zP,zG,Nat.reduceLT,Nat.reduceEqDiff,Nat.reduceAdd,zI,e2,hk2 82 rfl,aD,aJ,hj,hgv,oL (aG v)];apply hK2;clear hK2 K2;refine aA fun K2 hK2=>?_;simp only[↓zP,zG,Nat.reduceLT,zI,Nat.reduceLeDiff,fS,v0,aG];refine bF (w0 _) ?_
        cases c0:(decide (v.x>4096)||decide (v.x< -4096)) with
        |true=>
         rw[c0] at hfar1;simp only[↓zP,zG,Nat.reduceLT,Nat.reduceEqDiff,zI];apply hK2;clear hK2 K2;simp only[↓zP,zG,Nat.reduceLT];refine⟨rfl,_,by simp only[↓zP,zR];rfl,?_⟩;rw[hFi (by rw[hpe1 (hfar1 rfl)];decide),hpe1 (hfar1 rfl)];rfl
        |false=>
        rw[c0] at hfar1 hJ2n;simp only[↓zP,zG,Nat.reduceLT,Nat.reduceEqDiff,Nat.reduceAdd,zI,Nat.reduceLeDiff,fS,v1,aG];refine bF (w1 _) ?_
        cases c1:(decide (v.y>4096)||decide (v.y< -4096)) with
        |true=>
         rw[c1] at hfar1;simp only[↓zP,zG,Nat.reduceLT,Nat.reduceEqDiff,zI];apply hK2;clear hK2 K2;simp only[↓zP,zG,Nat.reduceLT];refine⟨rfl,_,by simp only[↓zP,zR];rfl,?_⟩;rw[hFi (by rw[hpe1 (hfar1 rfl)];decide),hpe1 (hfar1 rfl)];rfl
        |false=>
        rw[c1] at hfar1 hJ2n;simp only[↓zP,zG,Nat.reduceLT,Nat.reduceEqDiff,Nat.reduceAdd,zI,fS,v2,aG];refine bF (w2 _) ?_
        cases c2:(decide (v.z>4096)||decide (v.z< -4096)) with
        |true=>
         rw[c2] at hfar1;simp only[↓zP,zG,Nat.reduceLT,Nat.reduceEqDiff,zI];apply hK2;clear hK2 K2;simp only[↓zP,zG,Nat.reduceLT];refine⟨rfl,_,by simp only[↓zP,zR];rfl,?_⟩;rw[hFi (by rw[hpe1 (hfar1 rfl)];decide),hpe1 (hfar1 rfl)];rfl
        |false=>
        rw[c2] at hJ2n;simp only[↓zP,zG,Nat.reduceLT,Nat.reduceEqDiff,zI];apply hK2;clear hK2 K2;simp only[↓zP,zG,zI,Nat.reduceLeDiff];exact⟨hJ2n rfl,by rw[if_neg nx2,if_neg nx2];exact g02,trivial⟩
      · rintro f2 H2 hk2 ⟨hJ2,g02,hn2⟩
        have :l.any farV=false:=by
         rw[List.any_eq_false];intro v hv;obtain⟨k,hk,rfl⟩:=List.getElem_of_mem hv;rw[hJ2 k hk hk];decide
        simp only[↓zP];exact⟨hJn (hpe0 this),g02,hn2⟩
    · have hb:(chkL l != 0)=true:=by simp[he]
      have hpc:partE l=chkL l:=by unfold partE;rw[if_pos he]
      simp only[↓zP,zG,Nat.reduceLT,zI,hb];refine⟨rfl,_,by simp only[↓zP,zR];rfl,?_⟩;rw[hFi (by rw[hpc];exact he),hpc];rfl
  · rintro f H1 hk ⟨hJ,g0,hn⟩
    have hall:∀j (hl:j<ps.length),partE ps[j].2=0:=fun j hl=>hJ j hl hl
    have hR:=kJ (ls:=ps.map (·.2)) (fun l hl=>by
     obtain⟨p,hp,rfl⟩:=List.mem_map.1 hl;obtain⟨j,hj,rfl⟩:=List.getElem_of_mem hp
     exact hall j hj)
    have hval0:∀j (hl:j<ps.length),chkL ps[j].2=0∧ps[j].1=.aT 0 3 (ivE ps[j].2):=fun j hl=>by
     have h0:=(aIo (hall j hl)).1;refine⟨h0,?_⟩
     rcases hps _ (List.getElem_mem hl) with ⟨_,h⟩|h
     · rw[h,pD] at h0;cases h0
     · exact h
    have f1':f 1=.ref 0 0:=by rw[hk 1 rfl];simp only[aC,ne_eq,Nat.reduceEqDiff,not_false_eq_true];exact f1
    simp only[↓zP,zG,Nat.reduceAdd,zI,Nat.reduceLeDiff,f1',g0,hpe];refine bD [] (fun i vs H'=>(∀a k (ha:a<i) (hl:a<ps.length) (hk:k<a),disB ps[a].2 (ps[k]'(Nat.lt_trans hk hl)).2=true)∧H'.get 0=some (.cells [.str name,.aT 0 1 (pvE ps),.int .i64 m0,.int .i64 m1,.int .i64 r0,.int .i64 r1] false)∧1≤H'.next) ps.length (by omega) (by decide) ?_ ?_ ?_ ?_ ?_
    · simp only[aC]
    · simp only[aC,ne_eq,Nat.reduceEqDiff,not_false_eq_true]
    · exact⟨fun a k ha=>absurd ha (Nat.not_lt_zero _),g0,hn⟩
    · rintro i f2 H2 hi hk2 e2 ⟨hJ2,g02,hn2⟩
      have hg:(pvE ps).getD i []=[ps[i].1]:=bU hi;obtain⟨hv1,hv2⟩:=hval0 i hi
      have hJn:(∀k (hk:k<i),disB ps[i].2 (ps[k]'(Nat.lt_trans hk hi)).2=true)→∀a k (ha:a<i+1) (hl:a<ps.length) (hk:k<a),disB ps[a].2 (ps[k]'(Nat.lt_trans hk hl)).2=true:=fun h a k ha hl hk=>by
       by_cases e:a=i
       · subst e;exact h k hk
       · exact hJ2 a k (by omega) hl hk
      have hov:∀k (hk:k<i),disB ps[i].2 (ps[k]'(Nat.lt_trans hk hi)).2=false→restB (ps.map (·.2))=150:=fun k hk h=>by
       have :=oF (ls:=ps.map (·.2)) (i:=i) (k:=k) (by rw[hll];exact hi) hk (by rw[List.getElem_map,List.getElem_map];exact h);rw[hR,this];rfl
      have f21:f2 1=.ref 0 0:=by rw[hk2 1 rfl];simp only[aC,ne_eq,Nat.reduceEqDiff,not_false_eq_true];exact f1'
      have nx2:¬(0=H2.next):=by omega
      have htk:(pvE ps).take i=pvE (ps.take i):=by simp[pvE]
      have hsl:sliceA 1 (.aT 0 1 (pvE ps)) none (some i) none=some (.aT 0 1 (pvE (ps.take i))):=by
       simp only[sliceA,Option.getD_none,Option.getD_some];rw[if_pos ⟨trivial,Nat.zero_le _,by rw[hpe];omega⟩,if_neg (by rw[hpe];omega),List.drop_zero,Nat.sub_zero,htk]
      have hpi:(pvE (ps.take i)).length=i:=by simp[pvE];omega
      rw[hv2] at hg;refine aI ?_;refine aA fun K2 hK2=>?_;simp only[↓zP,zG,Nat.reduceLT,Nat.reduceEqDiff,zI,e2,hk2 104 rfl,aD,hpe,hi,hg];apply hK2;clear hK2 K2;simp only[↓zP,zG,Nat.reduceLT,Nat.reduceEqDiff,Nat.reduceAdd,zI,Nat.reduceLeDiff,f21,nx2,g02,optNat,aD,hsl,Option.isSome_none,Option.isSome_some,hpi];generalize hX:(H2.alloc _).set H2.next _=H4
      have y0:H4.get 0=some (.cells [.str name,.aT 0 1 (pvE ps),.int .i64 m0,.int .i64 m1,.int .i64 r0,.int .i64 r1] false):=by subst hX;rw[Heap.aB,if_neg nx2,Heap.aH,if_neg nx2];exact g02
      have yn:H2.next<H4.next:=by subst hX;simp
      have y9:H4.get H2.next=some (.cells [.aT 0 3 (ivE ps[i].2)] false):=by subst hX;rw[Heap.aB,if_pos rfl]
      clear hX;refine bD [] (fun k vs H'=>(∀a (ha:a<k) (hl:a<i),disB ps[i].2 (ps[a]'(Nat.lt_trans hl hi)).2=true)∧H'.get 0=some (.cells [.str name,.aT 0 1 (pvE ps),.int .i64 m0,.int .i64 m1,.int .i64 r0,.int .i64 r1] false)∧H2.next<H'.next∧H'.get H2.next=some (.cells [.aT 0 3 (ivE ps[i].2)] false)) i (by omega) (by decide) ?_ ?_ ?_ ?_ ?_
      · simp only[aC]
      · simp only[aC,ne_eq,Nat.reduceEqDiff,not_false_eq_true]
      · exact⟨fun a ha=>absurd ha (Nat.not_lt_zero _),y0,yn,y9⟩
      · rintro k f3 H3 hki hk3 e3 ⟨hJ3,g03,hn3,g93⟩
        have hkl:=Nat.lt_trans hki hi;obtain⟨hw1,hw2⟩:=hval0 k hkl
        have hgk:(pvE (ps.take i)).getD k []=[ps[k].1]:=by
         have h1:k<(ps.take i).length:=by simp;omega
         have :(pvE (ps.take i)).getD k []=[(ps.take i)[k].1]:=bU h1;rw[this,List.getElem_take]
        rw[hw2] at hgk;have hd:=zL (ta:=0) (tb:=0) rfl rfl hv1 hw1
        have hJ3n:disB ps[i].2 ps[k].2=true→∀a (ha:a<k+1) (hl:a<i),disB ps[i].2 (ps[a]'(Nat.lt_trans hl hi)).2=true:=fun h a ha hl=>by
         by_cases e:a=k
         · subst e;exact h
         · exact hJ3 a (by omega) hl
        have hovk:=hov k hki;generalize ps[k]=q at *;generalize hpi':ps[i]=p at *
        have nx3:¬(0=H3.next):=by omega
        have nx9:¬(H2.next=H3.next):=by omega
        refine aI ?_;refine aA fun K2 hK2=>?_;simp only[↓zP,zG,Nat.reduceLT,Nat.reduceEqDiff,zI,e3,hk3 114 rfl,aD,hpi,hki,hgk];apply hK2;clear hK2 K2;refine aA fun K2 hK2=>?_;simp only[↓zP,zG,Nat.reduceLT,Nat.reduceEqDiff,zI,hk3 9 rfl,nx9,g93];refine bF (hd _) ?_
        cases hdb:disB p.2 q.2 with
        |true=>
         simp only[↓zP,zG,Nat.reduceLT,zI];apply hK2;clear hK2 K2;simp only[↓zP,zG,zI];exact⟨hJ3n hdb,by rw[if_neg nx3,if_neg nx3];exact g03,by omega,by rw[if_neg nx9,if_neg nx9];exact g93⟩
        |false=>
         simp only[↓zP,zG,Nat.reduceLT,zI];apply hK2;clear hK2 K2;simp only[↓zP,zG,Nat.reduceLT];refine⟨rfl,_,by simp only[↓zP,zR];rfl,?_⟩;rw[hovk hdb];rfl
      · rintro f3 H3 hk3 ⟨hJ3,g03,hn3,g93⟩
        simp only[↓zP];exact⟨hJn fun k hk=>hJ3 k hk hk,g03,by omega⟩
    · rintro f2 H2 hk2 ⟨hJ2,g02,hn2⟩
      have :=lV (ls:=ps.map (·.2)) (fun a k ha hk=>by
       rw[List.getElem_map,List.getElem_map]
       exact hJ2 a k (by rwa [hll] at ha) (by rwa [hll] at ha) hk)
      simp only[↓zP];refine⟨rfl,_,by simp only[↓zP,zR];rfl,?_⟩;rw[hR,this];rfl
 clear hK;simp only[↓zP,zG,Nat.reduceLT,Nat.reduceEqDiff,Nat.reduceAdd,zI,Nat.reduceLeDiff,hpe,d1,d2];apply hK2;clear hK2 K2;refine mF false (by simp only[aC]) (fun h=>by cases h) (fun _=>?_);refine gI fun f hf=>?_
 have f1:f 1=.ref 0 0:=by subst hf;simp only[aC,ne_eq,Nat.reduceEqDiff,not_false_eq_true]
 clear hf
 cases g1:decide (m0<1) with
 |true=>
  rw[g1] at hB1;simp only[↓zP,zG,Nat.reduceLT,Nat.reduceEqDiff,Nat.reduceAdd,zI,Nat.reduceLeDiff,f1,fS,g1];refine⟨rfl,_,by simp only[↓zP,zR];rfl,?_⟩;rw[hB1 (by simp)];rfl
 |false=>
 cases g2:decide (m1<m0) with
 |true=>
  rw[g2] at hB1;simp only[↓zP,zG,Nat.reduceLT,Nat.reduceEqDiff,Nat.reduceAdd,zI,Nat.reduceLeDiff,f1,fS,g1,g2];refine⟨rfl,_,by simp only[↓zP,zR];rfl,?_⟩;rw[hB1 (by simp)];rfl
 |false=>
 cases g3:decide (m1>1099511627776) with
 |true=>
  rw[g3] at hB1;simp only[↓zP,zG,Nat.reduceLT,Nat.reduceEqDiff,Nat.reduceAdd,zI,Nat.reduceLeDiff,f1,fS,g1,g2,g3];refine⟨rfl,_,by simp only[↓zP,zR];rfl,?_⟩;rw[hB1 (by simp)];rfl
 |false=>
 cases g4:decide (r0<0) with
 |true=>
  rw[g4] at hB1;simp only[↓zP,zG,Nat.reduceLT,Nat.reduceEqDiff,Nat.reduceAdd,zI,Nat.reduceLeDiff,f1,fS,g1,g2,g3,g4];refine⟨rfl,_,by simp only[↓zP,zR];rfl,?_⟩;rw[hB1 (by simp)];rfl
 |false=>
 cases g5:decide (r1<r0) with
 |true=>
  rw[g5] at hB1;simp only[↓zP,zG,Nat.reduceLT,Nat.reduceEqDiff,Nat.reduceAdd,zI,Nat.reduceLeDiff,f1,fS,g1,g2,g3,g4,g5];refine⟨rfl,_,by simp only[↓zP,zR];rfl,?_⟩;rw[hB1 (by simp)];rfl
 |false=>
 cases g6:decide (r1>4000) with
 |true=>
  rw[g6] at hB1;simp only[↓zP,zG,Nat.reduceLT,Nat.reduceEqDiff,Nat.reduceAdd,zI,Nat.reduceLeDiff,f1,fS,g1,g2,g3,g4,g5,g6];refine⟨rfl,_,by simp only[↓zP,zR];rfl,?_⟩;rw[hB1 (by simp)];rfl
 |false=>
  rw[g1,g2,g3,g4,g5,g6] at hB0;simp only[↓zP,zG,Nat.reduceLT,Nat.reduceEqDiff,Nat.reduceAdd,zI,Nat.reduceLeDiff,f1,fS,g1,g2,g3,g4,g5,g6];exact key _ (hB0 rfl) (by simp only[aC,ne_eq,Nat.reduceEqDiff,not_false_eq_true];exact f1)
theorem aJd {name:List UInt8} (hname:name.length<2^63) (m0 m1 r0 r1:Int) (H:Heap):
 Sound Tryz.prog gv 6 [.agg (bodyC name .nilsl m0 m1 r0 r1)] H (.ret (.int .i64 (chkB name [] m0 m1 r0 r1))) H:=by
 refine Sp is6 (by simp only[sf,bodyC]) (by simp only[sf]) ?_ H;unfold W6;dsimp only;refine aA fun K hK=>?_;simp only[↓zP,zG,Nat.reduceLT,zI,bodyC];apply hK;clear hK K;refine aA fun K hK=>?_;refine aI ?_;refine aA fun K2 hK2=>?_;simp only[↓zP,zG,Nat.reduceLT,Nat.reduceEqDiff,Nat.reduceAdd,zI,Nat.reduceLeDiff];have hvo:=aDv name hname;have d1:decide ((0:Int)<1)=true:=rfl
 cases hv:validN name with
 |false=>
  rw[hv] at hvo;refine bF (hvo _) ?_;simp only[↓zP,zG,Nat.reduceLT,zI];apply hK2;clear hK2 K2;simp only[↓zP,zG,Nat.reduceLT];refine⟨rfl,_,by simp only[↓zP,zR];rfl,?_⟩;unfold chkB;rw[if_pos hv];rfl
 |true=>
  rw[hv] at hvo;refine bF (hvo _) ?_;simp only[↓zP,zG,Nat.reduceLT,zI];apply hK2;clear hK2 K2;refine mF false (by simp only[aC]) (fun h=>by cases h) (fun _=>?_);refine aA fun K2 hK2=>?_;simp only[↓zP,zG,Nat.reduceLT,Nat.reduceEqDiff,Nat.reduceAdd,zI,Nat.reduceLeDiff,Int.reduceLT,decide_true];apply hK2;clear hK2 K2;simp only[↓zP,zG,Nat.reduceLT];refine⟨rfl,_,by simp only[↓zP,zR];rfl,?_⟩;unfold chkB;rw[if_neg (by rw[hv];decide),if_pos (.inl (by decide))];rfl
theorem aMr {name:List UInt8} (hname:name.length<2^63) {pv:AV} {ps:List (AV×List Geo.V)} (hpv:PartsR pv ps) (hps:∀p∈ps,PartR p) (hlen:∀p∈ps,p.2.length<2^30) (hpl:ps.length<2^30) (m0 m1 r0 r1:Int) (H:Heap):
 Sound Tryz.prog gv 6 [.agg (bodyC name pv m0 m1 r0 r1)] H (.ret (.int .i64 (chkB name (ps.map (·.2)) m0 m1 r0 r1))) H:=by
 rcases hpv with ⟨h1,h2⟩|h1
 · rw[h1,h2];exact aJd hname m0 m1 r0 r1 H
 · rw[h1];exact qS hname hps hlen hpl m0 m1 r0 r1 H
theorem uZ:partE (cubeV 0 0)=0:=by
 unfold partE;rw[if_neg (by rw[mJ];decide),show(cubeV 0 0).any farV=false by decide+kernel];rfl
theorem bCr:restB [cubeV 0 0]=0:=by
 rw[kJ (fun l hl=>by rw[List.mem_singleton] at hl;subst hl;exact uZ)]
 have :overB [cubeV 0 0]=false:=lV fun i k hi hk=>by simp only[List.length_cons,List.length_nil] at hi;omega
 rw[this];rfl
theorem bCs:restB [cubeV 0 0,cubeV 0 0]=150:=by
 rw[kJ (fun l hl=>by
  have :l=cubeV 0 0:=by simpa using hl
  subst this;exact uZ)]
 have :overB [cubeV 0 0,cubeV 0 0]=true:=oF (i:=1) (k:=0) (by decide) (by decide) aEx;rw[this];rfl
theorem aUt:chkB [98] [cubeV 0 0] 8 10 500 700=0:=by
 unfold chkB;rw[if_neg (by decide+kernel),if_neg (by decide),if_neg (by decide+kernel),bCr]
theorem aUu:chkB [98] [cubeV 0 0,cubeV 0 0] 8 10 500 700=150:=by
 unfold chkB;rw[if_neg (by decide+kernel),if_neg (by decide),if_neg (by decide+kernel),bCs]
def cubeA (o p:Int):AV:=.aT 0 3 (ivE (cubeV o p))
theorem xB (o p:Int):PartR (cubeA o p,cubeV o p):=.inr rfl
theorem aRs (H:Heap):Sound Tryz.prog gv 6 [.agg (bodyC [98] (.aT 0 1 [[cubeA 0 0]]) 8 10 500 700)] H (.ret (.int .i64 0)) H:=by
 have :=qS (name:=[98]) (by decide) (ps:=[(cubeA 0 0,cubeV 0 0)]) (fun p hp=>by rw[List.mem_singleton] at hp;subst hp;exact xB 0 0) (fun p hp=>by rw[List.mem_singleton] at hp;subst hp;decide) (by decide) 8 10 500 700 H;rw[show([(cubeA 0 0,cubeV 0 0)].map (·.2))=[cubeV 0 0] from rfl,aUt] at this;exact this
theorem aRt (H:Heap):Sound Tryz.prog gv 6 [.agg (bodyC [98] (.aT 0 1 [[cubeA 0 0],[cubeA 0 0]]) 8 10 500 700)] H (.ret (.int .i64 150)) H:=by
 have :=qS (name:=[98]) (by decide) (ps:=[(cubeA 0 0,cubeV 0 0),(cubeA 0 0,cubeV 0 0)]) (fun p hp=>by
  have :p=(cubeA 0 0,cubeV 0 0):=by simpa using hp
  subst this;exact xB 0 0) (fun p hp=>by
  have :p=(cubeA 0 0,cubeV 0 0):=by simpa using hp
  subst this;decide) (by decide) 8 10 500 700 H
 rw[show([(cubeA 0 0,cubeV 0 0),(cubeA 0 0,cubeV 0 0)].map (·.2))=[cubeV 0 0,cubeV 0 0] from rfl,aUu] at this;exact this
theorem bCk (H:Heap):Sound Tryz.prog gv 21 [.agg [cubeA 0 0],.agg [cubeA 1 1]] H (.ret (.bool false)) H:=by
 have :=zL (ta:=0) (tb:=0) rfl rfl mJ aKj H;rw[aEy] at this;exact this
theorem bCl (H:Heap):Sound Tryz.prog gv 21 [.agg [cubeA 0 0],.agg [cubeA 2 0]] H (.ret (.bool true)) H:=by
 have :=zL (ta:=0) (tb:=0) rfl rfl mJ aKk H;rw[aEz] at this;exact this
theorem aRu (H:Heap):Sound Tryz.prog gv 104 [.agg [cubeA 0 0]] H (.ret (.aT (H.next+2) 5 ((cubeS 0 0).map (facC (plX (cubeV 0 0)))))) (H.alloc .tok):=by
 have hn:∀v∈cubeV 0 0,Near (2^18) v:=(jR mJ).2.2.2.2.2.2;exact qV (tag:=0) rfl hn (Nat.le_refl _) (by decide) (aNt mI mH) (by decide) H
end Go.Proofs.YtjiignefffdelaaGreatDoor
