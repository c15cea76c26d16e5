/-
  Part of the proof of statement 7
-/
import Derived.Test.YtogfcjbgeebfkaaGreatDoorA36
import Derived.Test.YtogfcjbgeebfkaaGreatDoorA09
import Derived.Test.YtogfcjbgeebfkaaGreatDoorA37
import Derived.Test.YtogfcjbgeebfkaaGreatDoorA23
import Derived.Test.YtogfcjbgeebfkaaGreatDoorA24
import Derived.Test.YtogfcjbgeebfkaaGreatDoorA07
import Derived.Test.YtogfcjbgeebfkaaGreatDoorA34
import Derived.Test.YtogfcjbgeebfkaaGreatDoorA08
import Derived.Test.YtogfcjbgeebfkaaGreatDoorA10
import Derived.Test.YtogfcjbgeebfkaaGreatDoorA12
import Derived.Test.YtogfcjbgeebfkaaGreatDoorA14
import Derived.Test.YtogfcjbgeebfkaaGreatDoorA16
import Derived.Test.YtogfcjbgeebfkaaGreatDoorA18
import Derived.Test.YtogfcjbgeebfkaaGreatDoorA25
import Derived.Test.YtogfcjbgeebfkaaGreatDoorA27
import Derived.Test.YtogfcjbgeebfkaaGreatDoorA29
import Derived.Test.YtogfcjbgeebfkaaGreatDoorA31
import Derived.Test.YtogfcjbgeebfkaaGreatDoorA33
import Derived.Test.YtogfcjbgeebfkaaGreatDoorA35
import Derived.Test.YtogfcjbgeebfkaaGreatDoorA20
import Derived.Test.YtogfcjbgeebfkaaGreatDoorA22
import Derived.Test.YtogfcjbgeebfkaaGreatDoorProg
import Derived.Shelf.Strings.OnBuilder
import Derived.Shelf.Strings.Count
import Derived.Shelf.Strings.Search3
set_option linter.unusedVariables false
set_option linter.unusedSimpArgs false
set_option maxRecDepth 1000000
set_option maxHeartbeats 16000000
namespace Go.Proofs
open Go.Shelf
def Tryz.WO:Go.Shelf.Ren:=⟨fun |143=>266|219=>306|217=>328|225=>329|224=>330|267=>331|266=>352|314=>353|n=>n,fun |9=>9|3=>3|4=>4|5=>5|46=>151|146=>304|51=>26|n=>n,fun |1=>0|n=>n⟩
theorem Tryz.aIz:Go.Proofs.Lays.n143 Tryz.prog Tryz.WO:={
 mixed:=by kernel_rfl
 f143:=Tryz.func266.trans (Ao some (by kernel_rfl))
 f217:=Tryz.func328.trans (Ao some (by kernel_rfl))
 f219:=Tryz.func306.trans (Ao some (by kernel_rfl))
 f224:=Tryz.func330.trans (Ao some (by kernel_rfl))
 f225:=Tryz.func329.trans (Ao some (by kernel_rfl))
 f266:=Tryz.func352.trans (Ao some (by kernel_rfl))
 f267:=Tryz.func331.trans (Ao some (by kernel_rfl))
 f314:=Tryz.func353.trans (Ao some (by kernel_rfl))
 t3:=Tryz.underlying3
 a3:=Tryz.isAgg3
 z3:=Tryz.sizeOf3
 v3:=Tryz.zeroValue3
 t4:=Tryz.underlying4
 a4:=Tryz.isAgg4
 z4:=Tryz.sizeOf4
 v4:=Tryz.zeroValue4
 t5:=Tryz.underlying5
 a5:=Tryz.isAgg5
 z5:=Tryz.sizeOf5
 v5:=Tryz.zeroValue5
 t9:=Tryz.underlying9
 a9:=Tryz.isAgg9
 z9:=Tryz.sizeOf9
 v9:=Tryz.zeroValue9
 t46:=Tryz.underlying151
 a46:=Tryz.isAgg151
 z46:=Tryz.sizeOf151
 v46:=Tryz.zeroValue151
 t51:=Tryz.underlying26
 a51:=Tryz.isAgg26
 z51:=Tryz.sizeOf26
 v51:=Tryz.zeroValue26
 t146:=Tryz.underlying304
 a146:=Tryz.isAgg304
 z146:=Tryz.sizeOf304
 v146:=Tryz.zeroValue304
 g1:=by kernel_rfl}
def Tryz.WN:Go.Shelf.Ren:=⟨fun |138=>265|195=>303|218=>305|143=>266|219=>306|217=>328|225=>329|224=>330|267=>331|266=>352|314=>353|n=>n,fun |9=>9|3=>3|4=>4|5=>5|0=>0|46=>151|146=>304|51=>26|n=>n,fun |1=>0|n=>n⟩
theorem Tryz.aIy:Go.Proofs.Lays.n138 Tryz.prog Tryz.WN:={
 mixed:=by kernel_rfl
 f138:=Tryz.func265.trans (Ao some (by kernel_rfl))
 f143:=Tryz.func266.trans (Ao some (by kernel_rfl))
 f195:=Tryz.func303.trans (Ao some (by kernel_rfl))
 f217:=Tryz.func328.trans (Ao some (by kernel_rfl))
 f218:=Tryz.func305.trans (Ao some (by kernel_rfl))
 f219:=Tryz.func306.trans (Ao some (by kernel_rfl))
 f224:=Tryz.func330.trans (Ao some (by kernel_rfl))
 f225:=Tryz.func329.trans (Ao some (by kernel_rfl))
 f266:=Tryz.func352.trans (Ao some (by kernel_rfl))
 f267:=Tryz.func331.trans (Ao some (by kernel_rfl))
 f314:=Tryz.func353.trans (Ao some (by kernel_rfl))
 t0:=Tryz.underlying0
 a0:=Tryz.isAgg0
 z0:=Tryz.sizeOf0
 v0:=Tryz.zeroValue0
 t3:=Tryz.underlying3
 a3:=Tryz.isAgg3
 z3:=Tryz.sizeOf3
 v3:=Tryz.zeroValue3
 t4:=Tryz.underlying4
 a4:=Tryz.isAgg4
 z4:=Tryz.sizeOf4
 v4:=Tryz.zeroValue4
 t5:=Tryz.underlying5
 a5:=Tryz.isAgg5
 z5:=Tryz.sizeOf5
 v5:=Tryz.zeroValue5
 t9:=Tryz.underlying9
 a9:=Tryz.isAgg9
 z9:=Tryz.sizeOf9
 v9:=Tryz.zeroValue9
 t46:=Tryz.underlying151
 a46:=Tryz.isAgg151
 z46:=Tryz.sizeOf151
 v46:=Tryz.zeroValue151
 t51:=Tryz.underlying26
 a51:=Tryz.isAgg26
 z51:=Tryz.sizeOf26
 v51:=Tryz.zeroValue26
 t146:=Tryz.underlying304
 a146:=Tryz.isAgg304
 z146:=Tryz.sizeOf304
 v146:=Tryz.zeroValue304
 g1:=by kernel_rfl}
def Tryz.Ml:Go.Shelf.Ren:=⟨fun |156=>87|165=>174|166=>175|169=>176|240=>227|241=>228|276=>273|277=>274|n=>n,fun |31=>113|9=>9|3=>3|4=>4|0=>0|20=>20|72=>180|76=>184|70=>177|37=>178|75=>183|127=>232|164=>272|5=>5|80=>186|n=>n,fun |n=>n⟩
theorem Tryz.aJa:Go.Proofs.Lays.n156 Tryz.prog Tryz.Ml:={
 mixed:=by kernel_rfl
 f156:=Tryz.func87.trans (Ao some (by kernel_rfl))
 f165:=Tryz.func174.trans (Ao some (by kernel_rfl))
 f166:=Tryz.func175.trans (Ao some (by kernel_rfl))
 f169:=Tryz.func176.trans (Ao some (by kernel_rfl))
 f240:=Tryz.func227.trans (Ao some (by kernel_rfl))
 f241:=Tryz.func228.trans (Ao some (by kernel_rfl))
 f276:=Tryz.func273.trans (Ao some (by kernel_rfl))
 f277:=Tryz.func274.trans (Ao some (by kernel_rfl))
 t0:=Tryz.underlying0
 a0:=Tryz.isAgg0
 z0:=Tryz.sizeOf0
 v0:=Tryz.zeroValue0
 t3:=Tryz.underlying3
 a3:=Tryz.isAgg3
 z3:=Tryz.sizeOf3
 v3:=Tryz.zeroValue3
 t4:=Tryz.underlying4
 a4:=Tryz.isAgg4
 z4:=Tryz.sizeOf4
 v4:=Tryz.zeroValue4
 t9:=Tryz.underlying9
 a9:=Tryz.isAgg9
 z9:=Tryz.sizeOf9
 v9:=Tryz.zeroValue9
 t20:=Tryz.underlying20
 a20:=Tryz.isAgg20
 z20:=Tryz.sizeOf20
 v20:=Tryz.zeroValue20
 t31:=Tryz.underlying113
 a31:=Tryz.isAgg113
 z31:=Tryz.sizeOf113
 v31:=Tryz.zeroValue113
 t37:=Tryz.underlying178
 a37:=Tryz.isAgg178
 z37:=Tryz.sizeOf178
 v37:=Tryz.zeroValue178
 t70:=Tryz.underlying177
 a70:=Tryz.isAgg177
 z70:=Tryz.sizeOf177
 v70:=Tryz.zeroValue177
 t72:=Tryz.underlying180
 a72:=Tryz.isAgg180
 z72:=Tryz.sizeOf180
 v72:=Tryz.zeroValue180
 t75:=Tryz.underlying183
 a75:=Tryz.isAgg183
 z75:=Tryz.sizeOf183
 v75:=Tryz.zeroValue183
 t76:=Tryz.underlying184
 a76:=Tryz.isAgg184
 z76:=Tryz.sizeOf184
 v76:=Tryz.zeroValue184
 t127:=Tryz.underlying232
 a127:=Tryz.isAgg232
 z127:=Tryz.sizeOf232
 v127:=Tryz.zeroValue232
 t164:=Tryz.underlying272
 a164:=Tryz.isAgg272
 z164:=Tryz.sizeOf272
 v164:=Tryz.zeroValue272}
theorem Tryz.HM:Builder.Extra Tryz.prog Tryz.Ml:={
 sizeBuilder:=by kernel_rfl
 liesBuilder:=by kernel_rfl
 t5:=Tryz.underlying5
 a5:=Tryz.isAgg5
 z5:=Tryz.sizeOf5
 v5:=Tryz.zeroValue5
 infoByte:=by kernel_rfl
 cellsByte:=by kernel_rfl
 sizeByte:=by kernel_rfl
 neB5:=by decide}
end Go.Proofs
namespace Go.Proofs.YtogfcjbgeebfkaaGreatDoor
open Go Go.Av
attribute [local congr] aY aS aV aQ bD aX aW aH bE
attribute [local irreducible] FC bT eX
def aXx(fn:Go.Func):Code:=fn.body.getD .skip
def RPw:{x // YL Tryz.prog kK false (aXx Tryz.f125)=some x}:=by
 apply Subtype.mk
 conv=>lhs;cbv
theorem bKz:xx Tryz.prog kK false 125 9 RPw.1.1 RPw.1.2.1 RPw.1.2.2:=⟨Tryz.f125,_,Tryz.func125,rfl,by kernel_rfl,RPw.2,by kernel_rfl,by kernel_rfl⟩
theorem rn(args:List AV)(ha:args.length=2)(H:aA):FH Tryz.prog kK 125 args none H H:=by refine TV Qz bKz A0 ?_;show bT Tryz.prog kK 9 [⟨(some 2),.Lu (.tmp 3),none⟩] (iZ (fO args) 3 .pR) [] H (gI (fun f ds H'=>FC Tryz.prog kK 9 RPw.1.2.2 f ds H' _) _);unfold RPw;dsimp only;have n1:GJ .ifc .pR=some true:=rfl;simp only[↓zP,zJ,seval,n1,Bool.or_true,Du,Hv,Lm]
end Go.Proofs.YtogfcjbgeebfkaaGreatDoor
namespace Go.Proofs.YtogfcjbgeebfkaaGreatDoor
open Go Go.Av Go.lP
def bLn:FT:=.node 210 (.node 90 (.node 29 (.node 25 (.leaf 9 W9T.1) (.node 26 (.leaf 25 aRx.1) (.leaf 26 aSc.1))) (.node 50 (.leaf 29 aSp.1) (.node 88 (.leaf 50 aSs.1) (.leaf 88 aSt.1)))) (.node 128 (.node 126 (.leaf 90 aSu.1) (.node 127 (.leaf 126 yl.1) (.leaf 127 ym.1))) (.node 177 (.node 133 (.leaf 128 yp.1) (.leaf 133 yq.1)) (.node 209 (.leaf 177 yw.1) (.leaf 209 yz.1))))) (.node 307 (.node 230 (.node 212 (.leaf 210 za.1) (.node 229 (.leaf 212 zb.1) (.leaf 229 zc.1))) (.node 267 (.node 232 (.leaf 230 zd.1) (.leaf 232 ze.1)) (.node 275 (.leaf 267 zf.1) (.leaf 275 zg.1)))) (.node 333 (.node 321 (.leaf 307 zi.1) (.node 332 (.leaf 321 zj.1) (.leaf 332 zk.1))) (.node 354 (.node 334 (.leaf 333 zl.1) (.leaf 334 zm.1)) (.node 355 (.leaf 354 zp.1) (.leaf 355 zt.1)))))
theorem vD:bLn.All fun f F=>∃mu,gH Tryz.prog kK mu f F:=⟨⟨⟨⟨⟨_,bKy⟩,⟨⟨_,bDd⟩,⟨_,bDi⟩⟩⟩,⟨⟨_,bDv⟩,⟨⟨_,bEc⟩,⟨_,bEj⟩⟩⟩⟩,⟨⟨⟨_,bEk⟩,⟨⟨_,aUq⟩,⟨_,aUr⟩⟩⟩,⟨⟨⟨_,aUs⟩,⟨_,aUt⟩⟩,⟨⟨_,aUu⟩,⟨_,aUv⟩⟩⟩⟩⟩,⟨⟨⟨⟨_,aUw⟩,⟨⟨_,aUx⟩,⟨_,aUy⟩⟩⟩,⟨⟨⟨_,aUz⟩,⟨_,aVa⟩⟩,⟨⟨_,aVb⟩,⟨_,aVc⟩⟩⟩⟩,⟨⟨⟨_,aVd⟩,⟨⟨_,aVe⟩,⟨_,aVf⟩⟩⟩,⟨⟨⟨_,aVg⟩,⟨_,aVh⟩⟩,⟨⟨_,aVi⟩,⟨_,aVj⟩⟩⟩⟩⟩⟩
theorem aWm:AJ Tryz.prog 265:=⟨_,Tryz.func265,by kernel_rfl,by kernel_rfl⟩
theorem aWn:AJ Tryz.prog 266:=⟨_,Tryz.func266,by kernel_rfl,by kernel_rfl⟩
theorem bFm:AJ Tryz.prog 87:=⟨_,Tryz.func87,by kernel_rfl,by kernel_rfl⟩
def aHq:List (List AV)->Option (List (List UInt8))
 |[]=>some []
 |[.str x]::r=>match aHq r with
  |some l=>some (x::l)
  |none=>none
 |_=>none
theorem dj:∀{els:List (List AV)} {l:List (List UInt8)},aHq els=some l->els=XK l
 |[],l,h=>by cases h;rfl
 |[.str x]::r,l,h=>by
  simp only[aHq] at h;split at h
  . rename_i l' nB;cases h;rw[dj nB];rfl
  cases h
def bFo(f:FuncId)(args:List AV)(H:aA):Option (Out×aA):=
 match aKh f args with
 |some v=>match cM args&&v.free with
  |true=>some (.ret v,H)
  |false=>none
 |none=>match Nat.beq f 265 with
 |true=>match args with
  |[.str s,.str [c]]=>some (.ret (.int .i64 (Lib.countByte s c)),H)
  |_=>none
 |false=>match Nat.beq f 266 with
 |true=>match args with
  |[.str s,.str [c]]=>some (.ret (.int .i64 (Lib.indexByte s c)),H)
  |_=>none
 |false=>match Nat.beq f 87 with
 |true=>match args with
  |[.bC _ 1 els,.str sep]=>match aHq els with
   |some xs=>match Nat.blt 0 xs.length&&Nat.ble xs.length 1000&&Nat.ble (Lib.join xs sep).length 1000000 with
    |true=>some (.ret (.str (Lib.join xs sep)),H)
    |false=>none
   |none=>none
  |_=>none
 |false=>none
theorem uZ:OE Tryz.prog kK bFo:=by
 intro f args H out H' h;unfold bFo at h;split at h
 . rename_i v hv;split at h
   . rename_i hf;cases h;rw[Ak] at hf;exact toT hf.1 hf.2 (je hv) H
   cases h
 split at h
 . rename_i hf;obtain rfl:=Bd hf;split at h
   . cases h;rename_i s c _;refine OI aWm (fun w=>?_) H;exact Any.strings_Count_one Tryz.aIy ⟨s.toArray⟩ c w
   cases h
 split at h
 . rename_i hf;obtain rfl:=Bd hf;split at h
   . cases h;rename_i s c _;refine OI aWn (fun w=>?_) H;exact Any.strings_Index_one Tryz.aIz ⟨s.toArray⟩ c w
   cases h
 split at h
 . rename_i hf;obtain rfl:=Bd hf;split at h
   . rename_i tag els sep _;split at h
     . rename_i xs hx;split at h
       . rename_i hc;cases h;rw[dj hx];simp only[Ak,Gx,Nat.ble_eq] at hc;refine YF bFm moT (fun e=>by subst e;exact absurd hc.1.1 (Ew _)) A0 A0 (fun bk o c ys w h1 h2 h3 h4 h5=>?_) tag H;exact Any.strings_Join Tryz.aJa Tryz.HM bk o c ys ⟨sep.toArray⟩ w h1 h2 h3 h4 h5
       cases h
     cases h
   cases h
 cases h
end Go.Proofs.YtogfcjbgeebfkaaGreatDoor
namespace Go.Proofs.YtogfcjbgeebfkaaGreatDoor
open Go Go.Av Go.aD
def plX(l:List aD.V)(q:aD.V×Int):List Nat:=aDo (gC (fun i=>l.getD i V0) l.length q.1 q.2) (sH q.1 (fun i=>l.getD i V0) (gC (fun i=>l.getD i V0) l.length q.1 q.2))
theorem Th{l:List aD.V}(hl:l.Pairwise gV){q:aD.V×Int}(hq:q∈gB l):kY l q=plX l q:=aKn ((kZ hl).po q hq)
theorem Ti{l:List aD.V}{S:List (aD.V×Int)}(h:NL (fun i=>l.getD i V0) l.length S=true):gB l=S:=(oS l).uniq (yG h)
theorem XQ{S:List (aD.V×Int)}{L L':aD.V×Int->List Nat}(h:∀q∈S,L q=L' q)(k:Nat):gJ S L k=gJ S L' k:=by
 unfold gJ;rw[Di,Cv,Cv];constructor
 . rintro⟨q,hq,hk⟩;exact⟨q,hq,by rw[<-h q hq];exact hk⟩
 rintro⟨q,hq,hk⟩;exact⟨q,hq,by rw[h q hq];exact hk⟩
theorem YR(l C:List aD.V){S:List (aD.V×Int)}{L L':aD.V×Int->List Nat}(h:∀q∈S,L q=L' q):OS l C S L=OS l C S L':=by
 have hL:gS C S L=gS C S L':=by unfold gS;rw[show gJ S L=gJ S L' from funext (XQ h)]
 have hO:iP l C S L=iP l C S L':=by unfold iP;rw[hL]
 unfold OS;rw[hO,hL]
def QN:List aD.V->Bool
 |[]=>true
 |v::r=>(r.all fun x=>ltV v x)&&QN r
theorem KE:∀{l:List aD.V},QN l=true->l.Pairwise gV
 |[],_=>.nil
 |q::r,h=>by simp only[QN,Ak,Bg] at h;exact Co.2 ⟨fun x hx=>gq.1 (h.1 x hx),KE h.2⟩
theorem TY{l:List aD.V}{S:List (aD.V×Int)}(hl:QN l=true)(h:NL (fun i=>l.getD i V0) l.length S=true):fJ l=OS l l S (plX l):=by have hs:=KE hl;unfold fJ;rw[Pr hs,YR l l (S:=gB l) fun q hq=>Th hs hq,Ti h]
theorem aAs{l:List aD.V}{S:List (aD.V×Int)}(hl:QN l=true)(h:NL (fun i=>l.getD i V0) l.length S=true):qZ l S (plX l) where
 fl:=yG h
 po q hq:=by
  have Ox:q∈gB l:=by rw[Ti h];exact hq
  have :=(kZ (KE hl)).po q Ox
  rwa [Th (KE hl) Ox] at this
def edX(l:List aD.V)(S:List (aD.V×Int)):List aD.V:=(HG S (plX l)).map fun x=>aD.sub (l.getD x.2.toNat V0) (l.getD x.1.toNat V0)
theorem Ro{L L':aD.V×Int->List Nat}:∀{S:List (aD.V×Int)},(∀q∈S,L q=L' q)->HG S L=HG S L'
 |[],_=>rfl
 |q::S,h=>by have ih:=Ro (S:=S) fun x hx=>h x (Aw _ hx);unfold HG at ih ⊢;rw[Ee,Ee,ih,h q Bc]
theorem Ni{l:List aD.V}{S:List (aD.V×Int)}(hl:QN l=true)(h:NL (fun i=>l.getD i V0) l.length S=true){v:aD.V}:yc l v↔v∈edX l S:=by
 have hs:=KE hl;have hF:=kZ hs;have hS:=Ti h;have he:HG S (plX l)=HG (gB l) (kY l):=by rw[hS];exact(Ro fun q hq=>Th hs (by rw[hS];exact hq)).symm
 unfold edX;rw[he,Bm];constructor
 . rintro⟨q,hq,a,b,h1,h2,h3,rfl⟩;have Ox:=(hF.fl.mem q).2 hq;exact⟨pN (a,b),(yQ hF).2 ⟨q,Ox,a,b,(hF.po q Ox).jX.2 ⟨h2,h1⟩,h3,rfl⟩,by simp[pN]⟩
 rintro⟨x,hx,rfl⟩;obtain⟨q,hq,a,b,h1,h2,rfl⟩:=(yQ hF).1 hx;have h3:=(hF.po q hq).jX.1 h1;exact⟨q,(hF.fl.mem q).1 hq,a,b,h3.2,h3.1,h2,by simp[pN]⟩
theorem Td{a b:List aD.V}{S T:List (aD.V×Int)}(ha:QN a=true)(hb:QN b=true)(hS:NL (fun i=>a.getD i V0) a.length S=true)(hT:NL (fun i=>b.getD i V0) b.length T=true):
 kJ a b=(kI S T (edX a S) (edX b T)).any (lZ a b):=by
 have vP:∀n,n∈kI S T (edX a S) (edX b T)↔ya a b n:=fun n=>by
  have m1:∀(l:List aD.V) (S:List (aD.V×Int)),NL (fun i=>l.getD i V0) l.length S=true->(n∈S.map (·.1)↔∃d,nA (fun i=>l.getD i V0) l.length n d):=fun l S h=>by
   have hf:=yG h;rw[Bm];constructor
   . rintro⟨q,hq,rfl⟩;exact⟨q.2,(hf.mem q).1 hq⟩
   rintro⟨d,hd⟩;exact⟨(n,d),(hf.mem (n,d)).2 hd,rfl⟩
  have m2:n∈LI (edX a S) (edX b T)↔∃u w,yc a u/\yc b w/\n=aD.aU u w/\n≠V0:=by
   simp only[LI,Ek,Jq];constructor
   . rintro⟨u,hu,w,hw,h⟩;split at h
     . cases h
     rename_i hc;obtain rfl:=Aa h;exact⟨u,w,(Ni ha hS).2 hu,(Ni hb hT).2 hw,rfl,hc⟩
   rintro⟨u,w,hu,hw,rfl,hn⟩;exact⟨u,(Ni ha hS).1 hu,w,(Ni hb hT).1 hw,by rw[if_neg hn]⟩
  unfold kI ya;rw[Cn,Aq,Aq,m1 a S hS,m1 b T hT,m2,or_assoc]
 rw[Di,Cv,lC];exact exists_congr fun n=>and_congr_left' (vP n).symm
def eM(o:Int)(p:Int):List aD.V:=[⟨o,p,p⟩,⟨o,p,p+2⟩,⟨o,p+2,p⟩,⟨o,p+2,p+2⟩,⟨o+2,p,p⟩,⟨o+2,p,p+2⟩,⟨o+2,p+2,p⟩,⟨o+2,p+2,p+2⟩]
def Va(o:Int)(p:Int):List (aD.V×Int):=[(⟨-1,0,0⟩,-o),(⟨0,-1,0⟩,-p),(⟨0,0,-1⟩,-p),(⟨0,0,1⟩,p+2),(⟨0,1,0⟩,p+2),(⟨1,0,0⟩,o+2)]
theorem CY:NL (fun i=>(eM 0 0).getD i V0) (eM 0 0).length (Va 0 0)=true:=by decide+kernel
theorem cz:NL (fun i=>(eM 1 1).getD i V0) (eM 1 1).length (Va 1 1)=true:=by decide+kernel
theorem de:NL (fun i=>(eM 2 0).getD i V0) (eM 2 0).length (Va 2 0)=true:=by decide+kernel
theorem CZ:QN (eM 0 0)=true:=by decide+kernel
theorem c9:QN (eM 1 1)=true:=by decide+kernel
theorem dh:QN (eM 2 0)=true:=by decide+kernel
theorem DA:fJ (eM 0 0)=0:=by rw[TY CZ CY];decide+kernel
theorem nc:fJ (eM 1 1)=0:=by rw[TY c9 cz];decide+kernel
theorem nf:fJ (eM 2 0)=0:=by rw[TY dh de];decide+kernel
theorem Yc:kJ (eM 0 0) (eM 0 0)=false:=by rw[Td CZ CZ CY CY];decide+kernel
theorem Yd:kJ (eM 0 0) (eM 1 1)=false:=by rw[Td CZ c9 CY cz];decide+kernel
theorem Ye:kJ (eM 0 0) (eM 2 0)=true:=by rw[Td CZ dh CY de];decide+kernel
theorem Pv:lH (eM 0 0)=0:=by unfold lH;rw[if_neg (by rw[DA];decide),show(eM 0 0).any LP=false by decide+kernel];rfl
theorem bGb:CE [eM 0 0]=0:=by
 rw[GV (fun l hl=>by rw[Cc] at hl;subst hl;exact Pv)];have :Mr [eM 0 0]=false:=Ms fun i k hi hk=>by simp only[As,Bw] at hi;omega
 rw[this];rfl
theorem bGc:CE [eM 0 0,eM 0 0]=150:=by
 rw[GV (fun l hl=>by
  have :l=eM 0 0:=by simpa using hl
  subst this;exact Pv)]
 have :Mr [eM 0 0,eM 0 0]=true:=Pt (i:=1) (k:=0) A1 A1 Yc;rw[this];rfl
theorem aSz:LH [98] [eM 0 0] 8 10 500 700=0:=by unfold LH;rw[if_neg (by decide+kernel),if_neg A1,if_neg (by decide+kernel),bGb]
theorem aTa:LH [98] [eM 0 0,eM 0 0] 8 10 500 700=150:=by unfold LH;rw[if_neg (by decide+kernel),if_neg A1,if_neg (by decide+kernel),bGc]
def iU(o p:Int):AV:=.bC 0 3 (bK (eM o p))
theorem Rk(o p:Int):uM (iU o p,eM o p):=.inr rfl
theorem aJl(H:aA):Sg 36 [.agg (MS [98] (.bC 0 1 [[iU 0 0]]) 8 10 500 700)] H (.ret (.int .i64 0)) H:=by have :=RZ (name:=[98]) A1 (ps:=[(iU 0 0,eM 0 0)]) (fun p hp=>by rw[Cc] at hp;subst hp;exact Rk 0 0) (fun p hp=>by rw[Cc] at hp;subst hp;decide) A1 8 10 500 700 H;rw[show([(iU 0 0,eM 0 0)].map (·.2))=[eM 0 0] from rfl,aSz] at this;exact this
theorem aJm(H:aA):Sg 36 [.agg (MS [98] (.bC 0 1 [[iU 0 0],[iU 0 0]]) 8 10 500 700)] H (.ret (.int .i64 150)) H:=by
 have :=RZ (name:=[98]) A1 (ps:=[(iU 0 0,eM 0 0),(iU 0 0,eM 0 0)]) (fun p hp=>by
  have :p=(iU 0 0,eM 0 0):=by simpa using hp
  subst this;exact Rk 0 0) (fun p hp=>by
  have :p=(iU 0 0,eM 0 0):=by simpa using hp
  subst this;decide) A1 8 10 500 700 H
 rw[show([(iU 0 0,eM 0 0),(iU 0 0,eM 0 0)].map (·.2))=[eM 0 0,eM 0 0] from rfl,aTa] at this;exact this
theorem bFk(H:aA):Sg 31 [.agg [iU 0 0],.agg [iU 1 1]] H (.ret (.bool false)) H:=by have :=Nd (ta:=0) (tb:=0) rfl rfl DA nc H;rw[Yd] at this;exact this
theorem bFl(H:aA):Sg 31 [.agg [iU 0 0],.agg [iU 2 0]] H (.ret (.bool true)) H:=by have :=Nd (ta:=0) (tb:=0) rfl rfl DA nf H;rw[Ye] at this;exact this
theorem aJn(H:aA):Sg 182 [.agg [iU 0 0]] H (.ret (.bC (H.next+2) 5 ((Va 0 0).map (cL (plX (eM 0 0)))))) (H.alloc .tok):=by have hn:∀v∈eM 0 0,bL (2^18) v:=(nG DA).2.2.2.2.2.2;exact CS (tag:=0) rfl hn (Ag _) A1 (aAs CZ CY) A1 H
def bLe:FT:=.node 116 (.node 58 (.node 37 (.node 17 (.node 13 (.leaf 10 W10.1) (.node 15 (.leaf 13 W13.1) (.leaf 15 W15.1))) (.node 20 (.leaf 17 W17.1) (.node 22 (.leaf 20 W20.1) (.leaf 22 W22.1)))) (.node 44 (.node 40 (.leaf 37 W37.1) (.node 41 (.leaf 40 W40.1) (.leaf 41 W41.1))) (.node 49 (.leaf 44 W44.1) (.node 52 (.leaf 49 W49.1) (.leaf 52 W52.1))))) (.node 73 (.node 64 (.node 62 (.leaf 58 W58.1) (.node 63 (.leaf 62 W62.1) (.leaf 63 W63.1))) (.node 65 (.leaf 64 W64.1) (.node 66 (.leaf 65 W65.1) (.leaf 66 W66.1)))) (.node 80 (.node 74 (.leaf 73 W73.1) (.node 78 (.leaf 74 W74.1) (.leaf 78 W78.1))) (.node 81 (.leaf 80 W80.1) (.node 115 (.leaf 81 W81.1) (.leaf 115 aOr.1)))))) (.node 200 (.node 147 (.node 130 (.node 117 (.leaf 116 aOs.1) (.node 129 (.leaf 117 aOt.1) (.leaf 129 aGf.1))) (.node 138 (.leaf 130 aOw.1) (.node 139 (.leaf 138 aGg.1) (.leaf 139 aGh.1)))) (.node 164 (.node 148 (.leaf 147 yt.1) (.node 157 (.leaf 148 aGi.1) (.leaf 157 aPk.1))) (.node 167 (.leaf 164 aPq.1) (.node 185 (.leaf 167 aPs.1) (.leaf 185 aGm.1))))) (.node 243 (.node 203 (.node 201 (.leaf 200 aQh.1) (.node 202 (.leaf 201 aQi.1) (.leaf 202 aQj.1))) (.node 211 (.leaf 203 aQk.1) (.node 214 (.leaf 211 aQn.1) (.leaf 214 aGr.1)))) (.node 260 (.node 244 (.leaf 243 aGs.1) (.node 259 (.leaf 244 aGt.1) (.leaf 259 aRw.1))) (.node 261 (.leaf 260 aRy.1) (.node 294 (.leaf 261 aRz.1) (.leaf 294 aSo.1))))))
theorem fU:bLe.All fun f F=>∃mu,gH Tryz.prog gv mu f F:=⟨⟨⟨⟨⟨⟨_,bJn⟩,⟨⟨_,bJo⟩,⟨_,bJp⟩⟩⟩,⟨⟨_,bJq⟩,⟨⟨_,bJr⟩,⟨_,bJs⟩⟩⟩⟩,⟨⟨⟨_,bDz⟩,⟨⟨_,bEa⟩,⟨_,bJy⟩⟩⟩,⟨⟨_,bEb⟩,⟨⟨_,bKa⟩,⟨_,bKd⟩⟩⟩⟩⟩,⟨⟨⟨⟨_,bEe⟩,⟨⟨_,bKk⟩,⟨_,bKl⟩⟩⟩,⟨⟨_,bEf⟩,⟨⟨_,bEg⟩,⟨_,bKm⟩⟩⟩⟩,⟨⟨⟨_,bEh⟩,⟨⟨_,bKn⟩,⟨_,bKp⟩⟩⟩,⟨⟨_,bKq⟩,⟨⟨_,bEi⟩,⟨_,aZx⟩⟩⟩⟩⟩⟩,⟨⟨⟨⟨⟨_,aZy⟩,⟨⟨_,aZz⟩,⟨_,aNe⟩⟩⟩,⟨⟨_,bAc⟩,⟨⟨_,aNf⟩,⟨_,aNg⟩⟩⟩⟩,⟨⟨⟨_,aBx⟩,⟨⟨_,aNh⟩,⟨_,bAq⟩⟩⟩,⟨⟨_,bAw⟩,⟨⟨_,bAy⟩,⟨_,aNl⟩⟩⟩⟩⟩,⟨⟨⟨⟨_,bBn⟩,⟨⟨_,bBo⟩,⟨_,bBp⟩⟩⟩,⟨⟨_,bBq⟩,⟨⟨_,bBt⟩,⟨_,aNq⟩⟩⟩⟩,⟨⟨⟨_,aNr⟩,⟨⟨_,aNs⟩,⟨_,bDc⟩⟩⟩,⟨⟨_,bDe⟩,⟨⟨_,bDf⟩,⟨_,bDu⟩⟩⟩⟩⟩⟩⟩
end Go.Proofs.YtogfcjbgeebfkaaGreatDoor
namespace Go.Proofs.YtogfcjbgeebfkaaGreatDoor
open Go Go.Av Go.lP
attribute [local congr] aY aS aV aQ bD aX aW aH bE
attribute [local irreducible] FC bT eX
def cR(n d:Int):List AV:=cI n++cI d
theorem z8(n d:Int):(cR n d).length=36:=by rw[cR,Ap,cJ,cJ]
theorem aHh(n d:Int):(cR n d).take 18=cI n:=by rw[cR,Cx (by rw[cJ];decide)];exact(oL (cJ n)).2.1
theorem aHg(n d:Int):(cR n d).drop 18=cI d:=by rw[cR,Je (by rw[cJ];decide),(oL (cJ n)).2.2,Er]
theorem cg(n d:Int):cM (cR n d)=true:=by rw[cR,iV,cK,cK];rfl
theorem DQ{a:List AV}{x:Int}(ha:dS a (some x))(H:aA):Sg 195 [.agg a] H (.ret (.bool true)) H:=by
 refine So aNo ZaH ?_ H;unfold aGp;dsimp only;have la:=ha.len;obtain⟨rfl,hz⟩:=ha.some
 have hv:∀H,Sg 212 [.agg (cI x)] H (.ret (.bool true)) H:=fun H=>by
  have :=OJ false (decide (x<0)) (.aL x.natAbs) H
  have e:(!decide (aL 16 x.natAbs=zs)|| !decide (x<0))=true:=by
   by_cases h:x<0
   . have :decide (aL 16 x.natAbs=zs)=false:=(by rw[Ad];rw[rI hz];omega);rw[this];rfl
   rw[Ad h];simp
  rw[if_neg A1,e] at this;exact this
 have e0:(cI x).getD 0 aB=.bool false:=rfl;simp only[↓zP,zJ,seval,la,e0];refine bO (hv _) ?_;refine Tz ?_;exact ZaB
theorem aEj(H:aA):Sg 147 [] H (.ret (.agg (cI 1))) H:=by refine Sp aBx Zac Zak ?_ H;unfold yt;dsimp only;refine Ty ?_;refine bO (tJ (z:=1) A1 A1 _) ?_;refine Ty ?_;refine Rx ?_;rfl
theorem tu{n d:Int}(hn:n.natAbs<2^64)(hd:d.natAbs<2^64)(hp:0<d)(hg:Int.gcd n d=1)(H:aA):Sg 107 [.agg (cR n d)] H (.ret (.bool true)) H:=by
 refine So aNb (by simp only[sf,cg]) ?_ H;unfold aGc;dsimp only;have wn:n.natAbs<W^16:=Cm hn A1;have wd:d.natAbs<W^16:=Cm hd A1;have g1:=DQ (.enc wn);have g2:=DQ (.enc wd);have sg:=qR (.enc wd);have gc:=CT (.enc wn) (.enc wd) hn hd;rw[hg] at gc
 have e1:decide (fV (some d)>0)=true:=by simp only[fV];split<;>(try split)<;>first|omega|rfl
 have l1:=z8 n d;have l2:=aHh n d;have l3:=aHg n d;have dA:∀z,(cI z).length=18:=fun z=>cJ z;have eqq:cT [.b,.b,.i,.i,.i,.i,.i,.i,.i,.i,.i,.i,.i,.i,.i,.i,.i,.i] (cI 1) (cI 1)=some true:=by rfl
 simp only[↓zP,zJ,seval,l1,l2];refine bO (g1 _) ?_;simp only[↓zP,zJ,seval,l1,l3,oL (dA _)];refine bO (g2 _) ?_;simp only[↓zP,zJ,seval,l1,l3,oL (dA _)];refine bO (sg _) ?_;simp only[↓zP,zJ,seval,l1,l2,l3,oL (dA _),e1];refine bO (gc _) ?_;refine Tz ?_;refine bO (aEj _) ?_;simp only[↓zP,zG,seval,eqq];exact ZaB
def xJ(n d:Int):Int:=if d<0 then -(Int.gcd n d:Int) else(Int.gcd n d:Int)
theorem tw{a b:List AV}{n d:Int}(ha:dS a (some n))(hb:dS b (some d))(Qk: -2^63<n)(AD:n<2^63)(Ou: -2^63<d)(ot:d<2^63)(hd:d≠0)(H:aA):
 Sg 106 [.agg a,.agg b] H (.ret (.agg (cR (AX n (xJ n d)).1 (AX d (xJ n d)).1))) H:=by
 refine Sp aNa Zaj (by simp only[sf,cg]) ?_ H;unfold aGb;dsimp only;have g1:=DQ ha;have g2:=DQ hb;have sg:=qR hb;have gc:=CT ha hb A0 A0;have la:=ha.len;have lb:=hb.len;have dA:∀z,(cI z).length=18:=fun z=>cJ z;have nY:(AV.bool false::AV.bool false::wC zs).length=18:=by simp[bW];rfl
 have hgz:(Int.gcd n d)≠0:=fun h=>hd (Jm.1 h).2;have hgl:Int.gcd n d<=d.natAbs:=Nat.gcd_le_right _ A0
 have e1:(fV (some d)==0)=false:=by simp only[fV];split<;>(try split)<;>first|rfl|omega
 have e2:decide (fV (some d)<0)=decide (d<0):=by rw[Bk];simp only[fV];split<;>(try split)<;>omega
 have hwg:(Int.gcd n d:Int).natAbs<W^16:=Cm (show(Int.gcd n d:Int).natAbs<2^63 by omega) A1;have ng:=TR (.enc hwg);have hwm:(xJ n d).natAbs<W^16:=by unfold xJ;split<;>omega
 have SL:xJ n d≠0:=by unfold xJ;split<;>omega
 have rP: -2^63<xJ n d:=by unfold xJ;split<;>omega
 have wV:xJ n d<2^63:=by unfold xJ;split<;>omega
 have q1:=KW ha (.enc hwm) Qk AD rP wV SL;have q2:=KW hb (.enc hwm) Ou ot rP wV SL;refine bX ?_;refine Ty ?_;refine bY ?_;generalize hX:(((aA.mk 0 .nil).alloc _).alloc _).alloc _=HA;have DX:HA.next=3:=by subst hX;rfl
 have yI:HA.get 0=some (.cells a false):=by subst hX;simp only[zI,seval]
 have RB:HA.get 1=some (.cells b false):=by subst hX;simp only[zI,seval]
 obtain⟨zz,SD,NY⟩:∃zz,HA.get 2=some (.cells zz false)/\zz.length=36:=by subst hX;refine⟨_,by simp only[zI,seval];rfl,?_⟩;rfl
 clear hX;refine bX ?_;simp only[↓zP,zJ,seval,yI,oL la];refine bO (g1 _) ?_;simp only[↓zP,zJ,seval,RB,oL lb];refine bO (g2 _) ?_;simp only[↓zP,zJ,seval,RB,oL lb];refine bO (sg _) ?_;simp only[↓zP,zG,seval,e1];refine bY ?_;refine cY fun f hf=>?_;have f2:f 2=.ref 0 0:=by subst hf;simp only[zB,seval]
 have f3:f 3=.ref 1 0:=by subst hf;simp only[zB,seval]
 have f4:f 4=.ref 2 0:=by subst hf;simp only[zB,seval]
 clear hf;refine bX ?_;simp only[↓zP,zJ,seval,f2,f3,yI,RB,oL la,oL lb];refine bO (gc _) ?_;simp only[↓zP,zJ,seval,DX,dA,nY,oL nY];refine bY ?_;generalize hX:(HA.alloc _).set 3 _=HB;have h0:HB.get 0=some (.cells a false):=by subst hX;simp only[zI,seval,DX,yI]
 have h1:HB.get 1=some (.cells b false):=by subst hX;simp only[zI,seval,DX,RB]
 have h2:HB.get 2=some (.cells zz false):=by subst hX;simp only[zI,seval,DX,SD]
 have h3:HB.get 3=some (.cells (cI (Int.gcd n d)) false):=by subst hX;simp only[zI,seval]
 clear hX yI RB SD DX HA;refine cY fun f' hf=>?_;have nt:=Ks hf f2;have Vl:=Ks hf f3;have Nf:=Ks hf f4;have Ng:f' 5=.ref 3 0:=by subst hf;simp only[zB,seval]
 clear hf f2 f3 f4 f;refine aT fun K hK=>?_
 have key:∀(f:cW) (HC:aA),f 2=.ref 0 0->f 3=.ref 1 0->f 4=.ref 2 0->f 5=.ref 3 0->HC.get 0=some (.cells a false)->HC.get 1=some (.cells b false)->HC.get 2=some (.cells zz false)->HC.get 3=some (.cells (cI (xJ n d)) false)->K f [] HC:=by
  intro f HC f2 f3 f4 f5 h0 h1 h2 h3;apply hK;clear hK K;refine bX ?_;refine Dz ?_;generalize (AX n (xJ n d)).1=qa at *;generalize (AX d (xJ n d)).1=qb at *;have k1:(cI qa++AV.bool false::AV.bool false::wC zs).length=36:=by rw[Ap,dA,nY]
  have k2:(cI qa++AV.bool false::AV.bool false::wC zs).take 18=cI qa:=by rw[Cx (by rw[dA];decide)];exact(oL (dA qa)).2.1
  have hcR:cI qa++cI qb=cR qa qb:=rfl;have SH:=oL (z8 qa qb);have k3:(cI qa++AV.bool false::AV.bool false::wC zs).drop 36=[]:=List.drop_eq_nil_of_le (by rw[k1];decide);simp only[↓zP,zJ,seval,zD,f2,f5,h0,h3,oL la,oL (dA _)];refine dM (q1 _) ?_;simp only[↓zP,zJ,seval,zD,f3,f5,h1,h3,oL lb,oL (dA _)];refine dM (q2 _) ?_;simp only[↓zP,zJ,seval,zD,f4,h0,h1,h2,h3,oL (dA _),NY,oL NY,k1,k2,k3,hcR,SH];refine bY ?_;refine Tx ?_;refine⟨rfl,_,by simp only[↓zP,zR,seval,f4,SH];rfl,?_⟩;rfl
 simp only[↓zP,zJ,seval,Vl,h1,oL lb];refine bO (sg _) ?_;simp only[↓zP,zG,seval,e2];refine⟨fun RF=>?_,fun RF=>?_⟩
 . have em:xJ n d= -(Int.gcd n d:Int):=by unfold xJ;rw[if_pos RF]
   have ev:AV.agg (cO (NR (some (Int.gcd n d:Int))))=AV.agg (cI (xJ n d)):=(by rw[em];rfl);exact Zam
 have em:xJ n d=(Int.gcd n d:Int):=by unfold xJ;rw[if_neg RF]
 exact ZaK
end Go.Proofs.YtogfcjbgeebfkaaGreatDoor
namespace Go.Proofs.YtogfcjbgeebfkaaGreatDoor
open Go Go.Av Go.lP Go.aD
def aHo:List AV->Option (Int×Int)
 |[.agg a,.agg b]=>match Ob a,Ob b with
  |some (some x),some (some y)=>some (x,y)
  |_,_=>none
 |_=>none
theorem di{args:List AV}{x y:Int}(h:aHo args=some (x,y)):∃a b,args=[.agg a,.agg b]/\dS a (some x)/\dS b (some y):=by
 unfold aHo at h;split at h
 . rename_i a b;split at h
   . rename_i x' y' hx hy;cases h;exact⟨a,b,rfl,sL hx,sL hy⟩
   cases h
 cases h
def aTc:List AV->Option (Int×Int)
 |[.agg c]=>match Ob (c.take 18),Ob (c.drop 18) with
  |some (some x),some (some y)=>some (x,y)
  |_,_=>none
 |_=>none
theorem aHp{args:List AV}{x y:Int}(h:aTc args=some (x,y)):args=[.agg (cR x y)]:=by
 unfold aTc at h;split at h
 . rename_i c;split at h
   . rename_i x' y' hx hy;cases h;have e1:=(sL hx).some.1;have e2:=(sL hy).some.1;rw[cR,<-e1,<-e2,Ht]
   cases h
 cases h
def aMj(x y:Int):Bool:=Nat.blt x.natAbs (2^64)&&Nat.blt y.natAbs (2^64)&&decide (0<y)&&Nat.beq (Int.gcd x y) 1
def aCa:List AV->Bool
 |[.agg c]=>rL (rX c) [iU 0 0]
 |_=>false
def aMd:List (List AV):=[
 [.int .i64 (-1),.int .i64 0,.int .i64 0,.int .i64 0,.bC 0 1 [[.int .i64 0],[.int .i64 1],[.int .i64 3],[.int .i64 2]]],
 [.int .i64 0,.int .i64 (-1),.int .i64 0,.int .i64 0,.bC 0 1 [[.int .i64 0],[.int .i64 4],[.int .i64 5],[.int .i64 1]]],
 [.int .i64 0,.int .i64 0,.int .i64 (-1),.int .i64 0,.bC 0 1 [[.int .i64 0],[.int .i64 2],[.int .i64 6],[.int .i64 4]]],
 [.int .i64 0,.int .i64 0,.int .i64 1,.int .i64 2,.bC 0 1 [[.int .i64 1],[.int .i64 5],[.int .i64 7],[.int .i64 3]]],
 [.int .i64 0,.int .i64 1,.int .i64 0,.int .i64 2,.bC 0 1 [[.int .i64 2],[.int .i64 3],[.int .i64 7],[.int .i64 6]]],
 [.int .i64 1,.int .i64 0,.int .i64 0,.int .i64 2,.bC 0 1 [[.int .i64 4],[.int .i64 6],[.int .i64 7],[.int .i64 5]]]]
theorem aAk:(Va 0 0).map (cL (plX (eM 0 0)))=aMd:=by kernel_rfl
def bFp(f:FuncId)(args:List AV)(H:aA):Option (Out×aA):=
 match aKh f args with
 |some v=>some (.ret v,H)
 |none=>match Nat.beq f 113 with
 |true=>match aHo args with
  |some (x,y)=>match Nat.blt x.natAbs (2^64)&&Nat.blt y.natAbs (2^64) with
   |true=>some (.ret (.agg (cI (Int.gcd x y))),H)
   |false=>none
  |none=>none
 |false=>match Nat.beq f 106 with
 |true=>match aHo args with
  |some (x,y)=>match Ue x y with
   |true=>some (.ret (.agg (cR (AX x (xJ x y)).1 (AX y (xJ x y)).1)),H)
   |false=>none
  |none=>none
 |false=>match Nat.beq f 107 with
 |true=>match aTc args with
  |some (x,y)=>match aMj x y with
   |true=>some (.ret (.bool true),H)
   |false=>none
  |none=>none
 |false=>match Nat.beq f 182 with
 |true=>match aCa args with
  |true=>some (.ret (.bC (H.next+2) 5 aMd),H.alloc .tok)
  |false=>none
 |false=>none
theorem fT:OE Tryz.prog gv bFp:=by
 intro f args H out H' h;unfold bFp at h;split at h
 . rename_i v hv;cases h;exact je hv H
 split at h
 . rename_i hf;obtain rfl:=Bd hf;split at h
   . rename_i x y hd;obtain⟨a,b,rfl,ha,hb⟩:=di hd;split at h
     . rename_i hc;cases h;simp only[Ak,Gx] at hc;exact CT ha hb hc.1 hc.2 H
     cases h
   cases h
 split at h
 . rename_i hf;obtain rfl:=Bd hf;split at h
   . rename_i x y hd;obtain⟨a,b,rfl,ha,hb⟩:=di hd;split at h
     . rename_i hc;cases h;simp only[Ue,Ak,Cs,Bf,Cb] at hc;obtain⟨⟨⟨⟨c1,c2⟩,c3⟩,c4⟩,c5⟩:=hc;exact tw ha hb c1 c2 c3 c4 c5 H
     cases h
   cases h
 split at h
 . rename_i hf;obtain rfl:=Bd hf;split at h
   . rename_i x y hd;obtain rfl:=aHp hd;split at h
     . rename_i hc;cases h;simp only[aMj,Ak,Bf,Gx] at hc;obtain⟨⟨⟨c1,c2⟩,c3⟩,c4⟩:=hc;exact tu c1 c2 c3 (Bd c4) H
     cases h
   cases h
 split at h
 . rename_i hf;obtain rfl:=Bd hf;split at h
   . rename_i hc;cases h
     obtain⟨c,rfl,hc⟩:∃c,args=[.agg c]/\rL (rX c) [iU 0 0]=true:=by
      unfold aCa at hc;split at hc
      . exact⟨_,rfl,hc⟩
      cases hc
     refine Sound.vh ?_
     have e:rX [AV.agg c]=[.agg [iU 0 0]]:=by rw[rX,vh,rX,nT _ _ hc]
     rw[e,<-aAk];exact aJn H
   cases h
 cases h
end Go.Proofs.YtogfcjbgeebfkaaGreatDoor
namespace Go.Proofs.YtogfcjbgeebfkaaGreatDoor
open Go Go.Av Go.aD
def aAj:List AV:=[.agg [iU 0 0]]
def MR:AV:=.agg (MS [98] (.bC 0 1 [[iU 0 0]]) 8 10 500 700)
def aXv:AV:=.agg (MS [98] (.bC 0 1 [[iU 0 0],[iU 0 0]]) 8 10 500 700)
def bGj:AV:=.agg (cR 1 1++cR 1 1++cR 1 1)
def bFe(a b:Int×Int):AV:=.agg [.int .i64 3,.int .i64 3,.bC 0 36 [cR a.1 a.2,cR b.1 b.2,cR b.1 b.2,cR b.1 b.2,cR a.1 a.2,cR b.1 b.2,cR b.1 b.2,cR b.1 b.2,cR a.1 a.2]]
def i3(a b c:Int):AV:=.agg [.int .i64 a,.int .i64 b,.int .i64 c]
def kA:List Fact:=[
 (36,[MR],.int .i64 0),(36,[aXv],.int .i64 150),
 (31,[.agg [iU 0 0],.agg [iU 1 1]],.bool false),(31,[.agg [iU 0 0],.agg [iU 2 0]],.bool true)]
theorem bEw:tH Tryz.prog gv kA:=(((tH.nil.cons bFl).cons bFk).cons aJm).cons aJl
def k1:Fact:=(58,aAj,.agg (cI 48))
theorem bEn:tH Tryz.prog gv (k1::kA):=bEw.DO fit eC fU fT dF 0 (by kernel_rfl)
def k2:Fact:=(65,aAj,bGj)
theorem bEo:tH Tryz.prog gv (k2::k1::kA):=bEn.DO fit eC fU fT dF 0 (by kernel_rfl)
def k3:Fact:=(78,aAj,bFe (64,3) (-8,1))
theorem bEp:tH Tryz.prog gv (k3::k2::k1::kA):=bEo.DO fit eC fU fT dF 1 (by kernel_rfl)
def kB:List Fact:=k3::k2::k1::kA
def k4:Fact:=(13,[MR],.agg (cI 48))
theorem bEq:tH Tryz.prog gv (k4::kB):=bEp.DO fit eC fU fT dF 0 (by kernel_rfl)
def k5:Fact:=(15,[MR],bGj)
theorem bEr:tH Tryz.prog gv (k5::k4::kB):=bEq.DO fit eC fU fT dF 0 (by kernel_rfl)
def k6:Fact:=(17,[MR],i3 1 1 1)
theorem bEs:tH Tryz.prog gv (k6::k5::k4::kB):=bEr.DO fit eC fU fT dF 0 (by kernel_rfl)
def k7:Fact:=(20,[MR,.agg (cR 8 1)],bFe (64,3) (-8,1))
theorem bEt:tH Tryz.prog gv (k7::k6::k5::k4::kB):=bEs.DO fit eC fU fT dF 1 (by kernel_rfl)
def kC:List Fact:=k7::k6::k5::k4::kB
def k8:Fact:=(10,[MR],.jZ [i3 0 0 0,i3 2 2 2])
theorem bEu:tH Tryz.prog gv (k8::kC):=bEt.DO fit eC fU fT dF 0 (by kernel_rfl)
def k9:Fact:=(22,[MR],.int .i64 12)
theorem bEv:tH Tryz.prog gv (k9::k8::kC):=bEu.DO fit eC fU fT dF 0 (by kernel_rfl)
def kO(n:Int):Fact:=(40,[.int .i64 n],.agg (cR n 1))
theorem aVs:tH Tryz.prog gv (kO 1::k9::k8::kC):=bEv.DO fit eC fU fT dF 0 (by kernel_rfl)
theorem aVt:tH Tryz.prog gv (kO 8::kO 1::k9::k8::kC):=aVs.DO fit eC fU fT dF 0 (by kernel_rfl)
theorem aVu:tH Tryz.prog gv (kO (-8)::kO 8::kO 1::k9::k8::kC):=aVt.DO fit eC fU fT dF 0 (by kernel_rfl)
def kD:List Fact:=kO (-8)::kO 8::kO 1::k9::k8::kC
def kF:Fact:=(41,[.int .i64 64,.int .i64 3],.agg (cR 64 3))
theorem bEx:tH Tryz.prog gv (kF::kD):=aVu.DO fit eC fU fT dF 0 (by kernel_rfl)
def kU(o p:Int):Fact:=(49,[i3 o p p,.int .i64 2],.agg [iU o p])
theorem aWb:tH Tryz.prog gv (kU 0 0::kF::kD):=bEx.DO fit eC fU fT dF 1 (by kernel_rfl)
theorem aWc:tH Tryz.prog gv (kU 1 1::kU 0 0::kF::kD):=aWb.DO fit eC fU fT dF 1 (by kernel_rfl)
theorem aWd:tH Tryz.prog gv (kU 2 0::kU 1 1::kU 0 0::kF::kD):=aWc.DO fit eC fU fT dF 1 (by kernel_rfl)
def kE:List Fact:=kU 2 0::kU 1 1::kU 0 0::kF::kD
def kP(s:List UInt8)(n:Int):Fact:=(211,[.str s],.jZ [.agg (cI n),.int .i64 0])
theorem aVv:tH Tryz.prog gv (kP [48] 0::kE):=aWd.DO fit eC fU fT dF 0 (by kernel_rfl)
theorem aVw:tH Tryz.prog gv (kP [50] 2::kP [48] 0::kE):=aVv.DO fit eC fU fT dF 0 (by kernel_rfl)
theorem aVx:tH Tryz.prog gv (kP [56] 8::kP [50] 2::kP [48] 0::kE):=aVw.DO fit eC fU fT dF 0 (by kernel_rfl)
def kG:List Fact:=kP [56] 8::kP [50] 2::kP [48] 0::kE
theorem aVy:tH Tryz.prog gv (kP [49,48] 10::kG):=aVx.DO fit eC fU fT dF 0 (by kernel_rfl)
theorem aVz:tH Tryz.prog gv (kP [53,48,48] 500::kP [49,48] 10::kG):=aVy.DO fit eC fU fT dF 0 (by kernel_rfl)
theorem aWa:tH Tryz.prog gv (kP [55,48,48] 700::kP [53,48,48] 500::kP [49,48] 10::kG):=aVz.DO fit eC fU fT dF 0 (by kernel_rfl)
def kH:List Fact:=kP [55,48,48] 700::kP [53,48,48] 500::kP [49,48] 10::kG
theorem bEy:tH Tryz.prog gv kH:=aWa
theorem aVl:tH Tryz.prog kK kH:=aXr bEy (by kernel_rfl)
def kN(n:Int)(s:List UInt8):Fact:=(88,[.int .i64 n],.str s)
theorem aVm:tH Tryz.prog kK (kN 0 [48]::kH):=aVl.DO Qz vO vD uZ dF 0 (by kernel_rfl)
theorem aVn:tH Tryz.prog kK (kN 2 [50]::kN 0 [48]::kH):=aVm.DO Qz vO vD uZ dF 0 (by kernel_rfl)
theorem aVo:tH Tryz.prog kK (kN 8 [56]::kN 2 [50]::kN 0 [48]::kH):=aVn.DO Qz vO vD uZ dF 0 (by kernel_rfl)
def kL:List Fact:=kN 8 [56]::kN 2 [50]::kN 0 [48]::kH
theorem aVp:tH Tryz.prog kK (kN 10 [49,48]::kL):=aVo.DO Qz vO vD uZ dF 0 (by kernel_rfl)
theorem aVq:tH Tryz.prog kK (kN 500 [53,48,48]::kN 10 [49,48]::kL):=aVp.DO Qz vO vD uZ dF 0 (by kernel_rfl)
theorem aVr:tH Tryz.prog kK (kN 700 [55,48,48]::kN 500 [53,48,48]::kN 10 [49,48]::kL):=aVq.DO Qz vO vD uZ dF 0 (by kernel_rfl)
def kM:List Fact:=kN 700 [55,48,48]::kN 500 [53,48,48]::kN 10 [49,48]::kL
def txt:List UInt8:=[98,111,100,121,32,98,32,109,97,115,115,32,56,32,49,48,32,114,111,117,103,104,32,53,48,48,32,55,48,48,10,112,97,114,116,32,48,32,48,32,48,32,48,32,48,32,50,32,48,32,50,32,48,32,48,32,50,32,50,32,50,32,48,32,48,32,50,32,48,32,50,32,50,32,50,32,48,32,50,32,50,32,50,10]
def kX:Fact:=(26,[MR],.str txt)
theorem bFa:tH Tryz.prog kK (kX::kM):=aVr.DO Qz vO vD uZ dF 0 (by kernel_rfl)
def bFj(f:FuncId)(k:Nat):Bool:=Nat.beq f 125&&Nat.beq k 2
theorem aJk:OD Tryz.prog kK bFj:=fun f k h args H ha=>by simp only[bFj,Ak] at h;obtain rfl:=Bd h.1;obtain rfl:=Bd h.2;exact rn args ha H
theorem bEz:tH Tryz.prog kK ((9,[],.bool true)::kX::kM):=bFa.DO Qz vO vD uZ aJk 0 (by kernel_rfl)
theorem tz(H:aA):St 9 [] H (.ret (.bool true)) H:=bEz _ Bc H
end Go.Proofs.YtogfcjbgeebfkaaGreatDoor
namespace Go.Proofs.YtogfcjbgeebfkaaGreatDoor
open Go Go.Av Go.aD Go.lP
attribute [local congr] aY aS aV aQ bD aX aW aH bE
attribute [local irreducible] FC bT eX
theorem aUp{a b:List aD.V}(ha:fJ a=0)(hb:fJ b=0)(hd:kJ a b=true)(H:aA):Sg 33 [.agg [.bC 0 3 (bK a)],.agg [.bC 0 3 (bK b)]] H (.ret (.bool false)) H:=by
 obtain⟨sa,_,na,_,la,_,fa⟩:=nG ha;obtain⟨sb,_,nb,_,lb,_,fb⟩:=nG hb;obtain⟨r,h1,h2⟩:=ph (ta:=0) (tb:=0) rfl rfl fa fb (Ag _) la lb (kZ sa) (kZ sb) na nb (vK sa)
 have :r=false:=by
  rw[<-Fs];intro h
  rcases h1 h with ⟨k,hk,h⟩|h
  . exact Zb hb hd hk h
  exact Za ha hb hd h
 rw[<-this];exact h2 H
theorem On(l m:List aD.V):cM [AV.agg [.bC 0 3 (bK l)],AV.agg [.bC 0 3 (bK m)]]=true:=by simp only[sf,cF (tag:=0) rfl]
theorem aHt{a b:List aD.V}(ha:fJ a=0)(hb:fJ b=0)(H:aA):St 31 [.agg [.bC 0 3 (bK a)],.agg [.bC 0 3 (bK b)]] H (.ret (.bool (kJ a b))) H:=
 toT (On a b) rfl (Nd (ta:=0) (tb:=0) rfl rfl ha hb) H
theorem bGa{a b:List aD.V}(ha:fJ a=0)(hb:fJ b=0)(H:aA):St 32 [.agg [.bC 0 3 (bK a)],.agg [.bC 0 3 (bK b)]] H (.ret (.bool (kJ a b))) H:=
 toT (On a b) rfl (UU (ta:=0) (tb:=0) rfl rfl ha hb) H
theorem bFr{a b:List aD.V}(ha:fJ a=0)(hb:fJ b=0)(hd:kJ a b=true)(H:aA):St 33 [.agg [.bC 0 3 (bK a)],.agg [.bC 0 3 (bK b)]] H (.ret (.bool false)) H:=
 toT (On a b) rfl (aUp ha hb hd) H
theorem bFg{a:List aD.V}(ha:fJ a=0){d:aD.V}(hd:bL (2^18) d)(H:aA):St 34 [.agg [.bC 0 3 (bK a)],.agg (cE d)] H (.ret (.jZ [.agg [.bC 0 3 (bK (sA d a))],.int .i64 (fJ (sA d a))])) H:=by obtain⟨_,_,_,_,la,cG,fa⟩:=nG ha;exact toT (by simp only[sf,cF (tag:=0) rfl,bV]) (by simp only[sf,cF (tag:=0) rfl]) (aCn (tag:=0) rfl fa (Ag _) la cG hd) H
theorem aIx{p q:AV×List aD.V}(hp:uM p)(hq:uM q)(d:aD.V)(H:aA):
 St 4 [.agg [p.1],.agg [q.1],.agg (cE d)] H (.ret (.bool true)) H:=by
 refine FI Qz vO bKb (Al rfl) (by simp only[sf,hp.free,hq.free,bV]) Zac ?_ H;unfold W4T;dsimp only;have ZH:=tz;have ld:=oL (aM d)
 have hP:∀{p:AV×List aD.V},uM p->∀A:aA,dE (fun _=>p.1) A (.WQ (.tmp 0))=some (.int .i64 p.2.length,A):=fun {p} h A=>by
  rcases h with ⟨h1,h2⟩|h1
  . rw[show(fun _:Arg=>p.1)=fun _=>AV.bB by rw[h1],h2];rfl
  rw[show(fun _:Arg=>p.1)=fun _=>AV.bC 0 3 (bK p.2) by rw[h1]];simp only[dE,aR]
 have lp:=hP hp;have lq:=hP hq;simp only[dE] at lp lq;have ckp:p.2.length<2^30->∀H,St 30 [.agg [p.1]] H (.ret (.int .i64 (fJ p.2))) H:=fun h=>toT (by simp only[sf,hp.free]) rfl (CF hp h);have ckq:q.2.length<2^30->∀H,St 30 [.agg [q.1]] H (.ret (.int .i64 (fJ q.2))) H:=fun h=>toT (by simp only[sf,hq.free]) rfl (CF hq h);refine bX ?_;refine Ty ?_;refine bY ?_;generalize hX:(((aA.mk 0 .nil).alloc _).alloc _).alloc _=HA;have a0:HA.get 0=some (.cells [p.1] false):=by subst hX;simp only[zI,seval]
 have a1:HA.get 1=some (.cells [q.1] false):=by subst hX;simp only[zI,seval]
 have a2:HA.get 2=some (.cells (cE d) false):=by subst hX;simp only[zI,seval]
 have an:HA.next=3:=by subst hX;simp only[zI,seval]
 clear hX;refine cY fun f hf=>?_;have f3:f 3=.ref 0 0:=by subst hf;simp only[zB,seval]
 have f4:f 4=.ref 1 0:=by subst hf;simp only[zB,seval]
 have f5:f 5=.ref 2 0:=by subst hf;simp only[zB,seval]
 have f59:f 59=aB:=by subst hf;simp only[zB,seval];exact rfl
 clear hf;refine aT fun K hK=>?_
 have key:∀g:cW,g 3=.ref 0 0->g 4=.ref 1 0->g 5=.ref 2 0->g 59=aB->fJ p.2=0->fJ q.2=0->K g [] HA:=by
  intro g g3 g4 g5 g59 ha hb
  have bFh:∀{p:AV×List aD.V},uM p->fJ p.2=0->p.1=.bC 0 3 (bK p.2):=fun {p} h h0=>by
   rcases h with ⟨_,h2⟩|h1
   . rw[h2,IB] at h0;cases h0
   exact h1
  rw[bFh hp ha] at a0;rw[bFh hq hb] at a1;clear lp lq ckp ckq hP f3 f4 f5 f59 f;apply hK;clear hK K;generalize p.2=a at *;generalize q.2=b at *;have c1:=aHt ha hb;have c2:=bGa ha hb;have c3:=aHt hb ha;have c4:=aHt ha ha;have c5:=fun h=>bFr ha hb h;have c6:=fun h=>bFr hb ha h;rw[Rm b a] at c3;rw[Rm b a] at c6;rw[aCx ha] at c4;obtain⟨_,_,_,_,_,na,_⟩:=nG ha;obtain⟨_,_,_,_,_,nb,_⟩:=nG hb;have c7:=aWi d na nb;generalize kJ a b=z at *;have hz:(z==z)=true:=Iy z;have hz2:(z != z)=false:=by cases z<;>rfl
  refine bX ?_;simp only[↓zP,zJ,seval,g3,g4,a0,a1];refine bO (c1 _) ?_;refine Tz ?_;refine gG ?_;simp only[↓zP,zJ,seval,g3,g4,a0,a1];refine bO (c2 _) ?_;simp only[↓zP,zJ,seval,g3,g4,a0,a1,hz];refine bO (c3 _) ?_;simp only[↓zP,zJ,seval,g3,a0,hz];refine bO (c4 _) ?_;refine Tz ?_;refine bY ?_;refine aT fun K hK=>?_
  have bFb:∀h:cW,h 3=.ref 0 0->h 4=.ref 1 0->h 5=.ref 2 0->h 7=.bool z->K h [] HA:=by
   intro h h3 h4 h5 h7;clear g3 g4 g5 g59 g c1 c2 c3 c4 c5 c6;apply hK;clear hK K;refine aT fun K hK=>?_;refine bX ?_;refine Tz ?_;refine bY ?_
   have aMt:(∀j,j<3->-(2^18)<=d.at j/\d.at j<=2^18)->bL (2^18) d:=fun h=>by have e0:=h 0 A1;have e1:=h 1 A1;have e2:=h 2 A1;simp only[V.at] at e0 e1 e2;exact⟨by omega,by omega,by omega⟩
   refine fC [] (fun i _ H'=>H'=HA/\∀j,j<i->-(2^18)<=d.at j/\d.at j<=2^18) 3 A1 rfl A1 ?_ ?_ ?_ ?_
   . exact zq
   . exact⟨rfl,fun j hj=>absurd hj (Ar _)⟩
   . rintro i f H1 hi hk e1 ⟨rfl,hj⟩;have k5:f 5=.ref 2 0:=(hk 5 rfl).trans h5;have hg:=jL d hi;have Vz:i<=2:=A0;refine aP ?_;refine bX ?_;simp only[↓zP,zG,seval,e1];refine bY ?_;have hgt:∀x:Int,(x>262144->decide (x>262144)=true)/\(¬x>262144->decide (x>262144)=false):=fun x=>⟨fun h=>Aj h,fun h=>Ad h⟩;have dT:∀x:Int,(x< -262144->decide (x< -262144)=true)/\(¬x< -262144->decide (x< -262144)=false):=fun x=>⟨fun h=>Aj h,fun h=>Ad h⟩;by_cases b1:d.at i>262144
     . have d1:=(hgt _).1 b1;simp only[↓zP,zJ,seval,k5,aG,hi,Vz,aM,a2,hg,d1];exact ZaA
     have d1:=(hgt _).2 b1;by_cases b2:d.at i< -262144
     . have d2:=(dT _).1 b2;simp only[↓zP,zJ,seval,k5,aG,hi,Vz,aM,a2,hg,d1,d2];exact ZaA
     have d2:=(dT _).2 b2;simp only[↓zP,zJ,seval,k5,aG,hi,Vz,aM,a2,hg,d1,d2];refine⟨trivial,fun j HI=>?_⟩
     rcases Nat.lt_or_eq_of_le (Nat.le_of_lt_succ HI) with h|h
     . exact hj j h
     rw[h];omega
   rintro f H1 hk ⟨rfl,hj⟩;have hn:=aMt hj;have k3:f 3=.ref 0 0:=(hk 3 rfl).trans h3;have k4:f 4=.ref 1 0:=(hk 4 rfl).trans h4;have k5:f 5=.ref 2 0:=(hk 5 rfl).trans h5;have k7:f 7=.bool z:=(hk 7 rfl).trans h7;have ma:=bFg ha hn;have mb:=bFg hb hn
   have c8:fJ (sA d a)=0->fJ (sA d b)=0->∀H,St 31 [.agg [.bC 0 3 (bK (sA d a))],.agg [.bC 0 3 (bK (sA d b))]] H (.ret (.bool z)) H:=fun h1 h2=>by
    have :=aHt h1 h2
    rwa [c7] at this
   generalize sA d a=x at *;generalize sA d b=y at *;refine Tx ?_;apply hK;clear hK K;refine bX ?_;simp only[↓zP,zJ,seval,k3,k5,a0,a2,ld];refine bO (ma _) ?_;refine Ty ?_;refine bY ?_;generalize hX:(aA.alloc _ _).set _ _=H2;have u1:H2.get 1=some (.cells [.bC 0 3 (bK b)] false):=(by subst hX;rw[aA.aC,if_neg A0,aA.aI,if_neg A0];exact a1);have u2:H2.get 2=some (.cells (cE d) false):=(by subst hX;rw[aA.aC,if_neg A0,aA.aI,if_neg A0];exact a2);have u3:H2.get 3=some (.cells [.bC 0 3 (bK x)] false):=(by subst hX;rw[aA.aC,if_pos an.symm]);have un:H2.next=4:=(by subst hX;simp only[aA.bA,aA.bH,an]);clear hX;rw[an];refine bX ?_;simp only[↓zP,zJ,seval,k4,k5,u1,u2,ld];refine bO (mb _) ?_;simp only[↓zP,zJ,seval,un];refine bY ?_;generalize hX:(aA.alloc _ _).set _ _=H3;have v3:H3.get 3=some (.cells [.bC 0 3 (bK x)] false):=(by subst hX;rw[aA.aC,if_neg A1,aA.aI,if_neg A0];exact u3);have v4:H3.get 4=some (.cells [.bC 0 3 (bK y)] false):=Zag;clear hX;refine aT fun K hK=>?_;refine Tx ?_;refine bO (ZH _) ?_;by_cases h8:fJ x=0
   . have e8:(fJ x != 0)=false:=(by rw[h8];rfl);by_cases h9:fJ y=0
     . have e9:(fJ y != 0)=false:=(by rw[h9];rfl);simp only[↓zP,zJ,seval,e8,e9,v3,v4];refine bO (c8 h8 h9 _) ?_;simp only[↓zP,zG,seval,k7,hz];apply hK;clear hK K;refine Tx ?_;exact ZaB
     have e9:(fJ y != 0)=true:=(by simpa using h9);simp only[↓zP,zG,seval,e8,e9];apply hK;clear hK K;refine Tx ?_;exact ZaB
   have e8:(fJ x != 0)=true:=(by simpa using h8);simp only[↓zP,zG,seval,e8];apply hK;clear hK K;refine Tx ?_;exact ZaB
  clear hK
  cases z with
  |true=>simp only[↓zP,zJ,seval,g3,g4,a0,a1];refine bO (c5 rfl _) ?_;simp only[↓zP,zJ,seval,g3,g4,a0,a1];refine bO (c6 rfl _) ?_;refine Tz ?_;exact bFb _ (by simp only[zB,seval,g3]) (by simp only[zB,seval,g4]) (by simp only[zB,seval,g5]) zq
  |false=>simp only[↓zP,zG,seval,sZ];exact bFb _ (by simp only[zB,seval,g3]) (by simp only[zB,seval,g4]) (by simp only[zB,seval,g5]) zq
 clear hK;have hb:∀n:Nat,(10<n->decide ((n:Int)>10)=true)/\(¬10<n->decide ((n:Int)>10)=false):=fun n=>⟨fun h=>Aj A0,fun h=>Ad A0⟩;by_cases h1:10<p.2.length
 . have d1:=(hb _).1 h1;simp only[↓zP,zJ,seval,f3,a0,lp,d1];exact ZaA
 have d1:=(hb _).2 h1;by_cases h2:10<q.2.length
 . have d2:=(hb _).1 h2;simp only[↓zP,zJ,seval,f3,f4,a0,a1,lp,lq,d1,d2];exact ZaA
 have d2:=(hb _).2 h2;have cp:=ckp A0;have cq:=ckq A0;simp only[↓zP,zJ,seval,f3,f4,a0,a1,lp,lq,d1,d2];refine bO (cp _) ?_;by_cases h3:fJ p.2=0
 . have e3:(fJ p.2 != 0)=false:=by rw[h3];rfl
   simp only[↓zP,zJ,seval,e3,f4,a1];refine bO (cq _) ?_;by_cases h4:fJ q.2=0
   . have e4:(fJ q.2 != 0)=false:=(by rw[h4];rfl);simp only[↓zP,zG,seval,e4];exact key _ (by simp only[zB,seval,f3]) (by simp only[zB,seval,f4]) (by simp only[zB,seval,f5]) (by simp only[zB,seval,f59]) h3 h4
   have e4:(fJ q.2 != 0)=true:=(by simpa using h4);simp only[↓zP,zG,seval,e4];exact ZaA
 have e3:(fJ p.2 != 0)=true:=by simpa using h3
 simp only[↓zP,zG,seval,e3];exact ZaA
end Go.Proofs.YtogfcjbgeebfkaaGreatDoor
