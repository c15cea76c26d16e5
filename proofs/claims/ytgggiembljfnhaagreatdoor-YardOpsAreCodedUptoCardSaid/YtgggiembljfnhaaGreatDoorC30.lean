/-
  Part of the proof of statement 14
-/
import Derived.Test.YtgggiembljfnhaaGreatDoorC07
import Derived.Test.YtgggiembljfnhaaGreatDoorC25
import Derived.Test.YtgggiembljfnhaaGreatDoorC27
import Derived.Test.YtgggiembljfnhaaGreatDoorC29
set_option linter.unusedVariables false
set_option linter.unusedSimpArgs false
set_option maxRecDepth 100000
set_option maxHeartbeats 16000000
namespace Go.Proofs.YtgggiembljfnhaaGreatDoor
open Go Go.Av Go.aY
open Go.ChangeShapes Go.WideShapes Go.ChangeAt Go.RowKit
section
section
variable {H:Type} {enc:TypeId×Value->H} {W:World} {base:Nat} {hd:Bool}
theorem nN {t:TypeId} {fs:Array Field} {fuel:Nat} {cs:List Value} {x:DataW H×List MemPlace} (ht:Tryz.prog.underlying t=some (.struct fs)) (h:DataW.trod enc Tryz.prog W base (fun _=>true) hd fuel t cs=some x)
 {i:Nat} {f:Field} (hf:fs[i]?=some f) (c1:Tryz.prog.cellsOf f.type=1) (ho:f.offset<Tryz.prog.cellsOf t):
 ∃(v:Value) (m:Nat) (y:DataW H×List MemPlace),cs.getD f.offset undef=v/\DataW.trod enc Tryz.prog W base (fun _=>true) hd m f.type [v]=some y/\Rows.uptoBulk y.1<=Rows.uptoBulk x.1:=by
 obtain⟨xs,n,_,rfl,hl,EI,hfs⟩:=DataW.trod_struct ht h;have h1:=hfs i f hf
 have hi:i<fs.size:=by
  rcases Dt i fs.size with h|h
  . exact h
  rw[Gv h] at hf;cases hf
 have h2:(cs.drop f.offset).take 1=[cs.getD f.offset undef]:=by rw[Hx (by omega),Cw,Ew,List.getD,Ac (by omega)];rfl
 rw[c1,h2,Ac (by omega)] at h1;refine⟨_,n,_,rfl,h1,?_⟩;have :=Ow (List.mem_map_of_mem (f:=(·.1)) (Ap (l:=xs) (n:=i) (by omega)));simp only[Rows.uptoBulk];omega
theorem Sh {m:Nat} {v:Value} {y:DataW H×List MemPlace} (mo:Bool) (h:DataW.trod enc Tryz.prog W base (fun _=>true) hd m 50 [v]=some y):
 ∃(av:AV) (l:List Nat),mG av 1 (aO l)/\Bytes l/\VR (nH mo W) W av v/\l.length+1<=Rows.uptoBulk y.1:=by
 obtain⟨av,l,h1,h2,h3,h4,_⟩:=AA (α:=Nat) mo Tryz.underlying50 (n:=1) (by kernel_rfl) (by decide) (fun x=>[AV.int .u8 x]) (fun x=>x<256)
  (fun r _=>⟨rfl,fun c hc=>by rw[Dc] at hc;subst hc;rfl⟩) (fun cs m y _ hy=>by
    obtain⟨n,rfl,_,hw⟩:=DataW.trod_int Tryz.underlying5 hy;simp[Lit.wf,IntKind.min,IntKind.max,IntKind.signed,IntKind.bits] at hw;refine⟨n.toNat,by omega,fun j hj=>?_⟩;obtain rfl:j=0:=by omega
    show VR _ W (.int .u8 ((n.toNat:Nat):Int)) (.int .u8 n);rw[show((n.toNat:Nat):Int)=n by omega]
    exact .int _ _) h
 exact⟨av,l,h1,h2,h3,h4⟩
end
def aJr:Value:=.agg #[.int .i64 0,.int .i64 0,.slice none 0 0]
def aJs:Value:=.agg #[.slice none 0 0,.slice none 0 0,.slice none 0 0,.slice none 0 0,.slice none 0 0,.slice none 0 0]
def aJq:Value:=.slice none 0 0
def z64 {H:Type}:DataW H:=.lit (.int .i64 0)
def rdO {H:Type}:DataW H:=.agg [z64,z64,.nil]
def rdS {H:Type}:DataW H:=.agg [.nil,.nil,.nil,.nil,.nil,.nil]
theorem Yc (os:Os) (started:os.Started) (H:Type) (enc:TypeId×Value->H) (F:Stop.Interp):
 ReturnsInHanded {} Tryz.checked os 5 .any ((Rows.OpenSpec.upto Rows.yardOpsAreCodedSpec).preRow enc Tryz.prog Tryz.f5 Rows.yardOpsAreCodedUptoRow.domain false Rows.yardOpsAreCodedUptoRow.laid) (((Rows.OpenSpec.upto Rows.yardOpsAreCodedSpec).at F).post enc Tryz.prog Tryz.f5 false true false false):=by
 refine returnsInHanded_of_row (C:=Tryz.checked) (s:=Rows.OpenSpec.upto Rows.yardOpsAreCodedSpec) own started (by kernel_rfl) Tryz.func5
  ⟨World.laidAll Tryz.prog os UG,fun _ _=>0,⟨#[],#[aJr,aJs,aJq],[]⟩,World.laidAll_os _ _ _,World.shaped_of_ZipB (by kernel_rfl) (by kernel_rfl),rfl,(Input.okWide_of_okWideB (by kernel_rfl)).2,
    OpenSpec.preRow_of_cond 8 (x:=([rdO,rdS,.nil],[],[])) (by kernel_rfl) (by kernel_rfl) (fun k hk=>by cases hk;kernel_rfl) (by kernel_rfl) (by rw[show Rows.yardOpsAreCodedUptoRow.laid=UG from rfl,MakeChecks.laidMetH_plain _ _ _ (by kernel_rfl)];exact laidMet_laidAll _ (by kernel_rfl) (by kernel_rfl)),by
    simp only[Assume.holds]
    exact⟨by simp,by simp,by simp,by simp,by simp⟩⟩ ?_
 intro W base args ds gs before aEj hW _ gG _ hL _ _;have hL:laidMetH Tryz.prog UG W:=hL
 have iu:∀(j:Nat) t v,Tryz.f5.params[j]?=some t->args[j]?=some v->Value.okWide Tryz.prog W .any base t v:=aEj
 have hW':=hW;obtain⟨p,q,hA0,hV,rfl,Ts,Nd⟩:=hW;have hA:DataW.TrodAll enc Tryz.prog W 0 (fun _=>true) true Tryz.f5.params.toList args.toList ds p:=hA0;rw[Tryz.params5] at hA iu;obtain⟨v0,v1,v2,d0,d1,d2,p0,p1,p2,rfl,rfl,rfl,h0,h1,h2⟩:=trodAll_three hA;obtain⟨rfl,rfl⟩:=trodVars_none hV
 have YI:Rows.uptoBulk d0+(Rows.uptoBulk d1+Rows.uptoBulk d2)<=1048576:=by have h:Rows.uptoBulkAll ([d0,d1,d2]++[])<=1048576:=Dq (gG _ rfl);simpa only[Cf,Rows.uptoBulkAll,Cp] using h
 have k0:=iu 0 34 v0 rfl rfl;have k1:=iu 1 32 v1 rfl rfl;simp only[Value.okWide,Tryz.underlying34] at k0;simp only[Value.okWide,Tryz.underlying32] at k1;obtain⟨c0,rfl,hc0,_⟩:=k0;obtain⟨c1,rfl,YJ,_⟩:=k1;have h0k:=h0;have h1k:=h1;have h2k:=h2;obtain⟨f0,h0⟩:=h0;obtain⟨f1,h1⟩:=h1;obtain⟨f2,h2⟩:=h2
 replace h0:DataW.trod enc Tryz.prog W 0 (fun _=>true) true f0 34 c0.toList=some (d0,p0):=h0
 replace h1:DataW.trod enc Tryz.prog W 0 (fun _=>true) true f1 32 c1.toList=some (d1,p1):=h1
 have l0:c0.toList.length=3:=by rw[Cm,hc0];kernel_rfl
 have l1:c1.toList.length=6:=by rw[Cm,YJ];kernel_rfl
 have R1:=xO 8 (ts:=[3,3,29]) (by kernel_rfl) h0;obtain⟨w2,n2,x2,g2,s2,b2⟩:=nN Tryz.underlying34 h0 (i:=2) rfl (by kernel_rfl) (by decide+kernel);obtain⟨pv,ps,hpv,hp,vp,bp,_⟩:=xF (n:=7) false Tryz.underlying29 (by kernel_rfl) (by kernel_rfl) (by decide) s2;dsimp only at b2;have i0:=AE R1 (i:=0) (u:=3) rfl Tryz.underlying3;have i1:=AE R1 (i:=1) (u:=3) rfl Tryz.underlying3
 have ho:VR (nH false W) W (.agg (oC (bg (c0.toList.getD 0 undef)) (bg (c0.toList.getD 1 undef)) pv)) (.agg c0):=by
  refine .agg _ c0.toList l0 ?_ ?_
  . intro c hc;simp only[oC,Ah,Al,Bx] at hc
    rcases hc with rfl|rfl|rfl<;>first|rfl|exact mG.aJb (by assumption)
  intro j hj
  exact match j,hj with
  |0,_=>TJ i0
  |1,_=>TJ i1
  |2,_=>by rw[show c0.toList.getD 2 undef=w2 from g2];exact vp
  |n+3,h=>absurd h (by simp only[oC,Ak,Ar];omega)
 obtain⟨a0,i0',z0,q0,r0,o0⟩:=nN Tryz.underlying32 h1 (i:=0) rfl (by kernel_rfl) (by decide+kernel);obtain⟨a1,i1',z1,q1,r1,o1⟩:=nN Tryz.underlying32 h1 (i:=1) rfl (by kernel_rfl) (by decide+kernel);obtain⟨a2,i2',z2,q2,r2,o2⟩:=nN Tryz.underlying32 h1 (i:=2) rfl (by kernel_rfl) (by decide+kernel);obtain⟨a3,i3',z3,q3,r3,o3⟩:=nN Tryz.underlying32 h1 (i:=3) rfl (by kernel_rfl) (by decide+kernel);obtain⟨a4,i4',z4,q4,r4,o4⟩:=nN Tryz.underlying32 h1 (i:=4) rfl (by kernel_rfl) (by decide+kernel);obtain⟨a5,i5',z5,q5,r5,o5⟩:=nN Tryz.underlying32 h1 (i:=5) rfl (by kernel_rfl) (by decide+kernel);obtain⟨sv,st,x0,y0',j0,_⟩:=AB false r0;obtain⟨sp,sps,x1,k1,y1',j1,_⟩:=xF (n:=7) false Tryz.underlying29 (by kernel_rfl) (by kernel_rfl) (by decide) r1;obtain⟨vv,vs,x2',k2,y2',j2,_⟩:=xF (n:=3) false Tryz.underlying30 (by kernel_rfl) (by kernel_rfl) (by decide) r2;obtain⟨wv,ws,x3,k3,y3',j3,_⟩:=xF (n:=3) false Tryz.underlying30 (by kernel_rfl) (by kernel_rfl) (by decide) r3;obtain⟨av,ta,x4,y4',j4,_⟩:=AB false r4;obtain⟨cv,ac,x5,y5',j5,_⟩:=AB false r5;dsimp only at o0 o1 o2 o3 o4 o5;have hs:Sc.OK ⟨sv,sp,vv,wv,av,cv,st,sps,vs,ws,ta,ac⟩:=⟨x0,x1,x2',x3,x4,x5,k1,k2,k3,by show st.length<_;omega,by show sps.length<_;omega,by show vs.length<_;omega,by show ws.length<_;omega,by show ta.length<_;omega,by show ac.length<_;omega⟩
 have hsc:VR (nH false W) W (.agg (Sc.cs ⟨sv,sp,vv,wv,av,cv,st,sps,vs,ws,ta,ac⟩)) (.agg c1):=by
  refine .agg _ c1.toList l1 ?_ ?_
  . intro c hc;simp only[Sc.cs,Ah,Al,Bx] at hc
    rcases hc with rfl|rfl|rfl|rfl|rfl|rfl<;>exact mG.aJb (by assumption)
  intro j hj
  exact match j,hj with
  |0,_=>by rw[show c1.toList.getD 0 undef=a0 from q0];exact y0'
  |1,_=>by rw[show c1.toList.getD 1 undef=a1 from q1];exact y1'
  |2,_=>by rw[show c1.toList.getD 2 undef=a2 from q2];exact y2'
  |3,_=>by rw[show c1.toList.getD 3 undef=a3 from q3];exact y3'
  |4,_=>by rw[show c1.toList.getD 4 undef=a4 from q4];exact y4'
  |5,_=>by rw[show c1.toList.getD 5 undef=a5 from q5];exact y5'
  |n+6,h=>absurd h (by simp only[Sc.cs,Ak,Ar];omega)
 have k2:=iu 2 50 v2 rfl rfl
 have k2':Cell.okWide Tryz.prog W .any base 50 v2:=by simpa only[Value.okWide,Tryz.underlying50] using k2
 have Jj:v2.cells.toList=[v2]:=by cases v2<;>simp[Cell.okWide,Cell.ok,Tryz.underlying50] at k2'<;>rfl
 rw[Jj] at h2;obtain⟨bv,b,OS,hb,hvb,jb⟩:=Sh false h2;dsimp only at jb
 have hS:=(Yb WS (k:=bg (c0.toList.getD 0 undef)) (n:=bg (c0.toList.getD 1 undef)) (SI i0) (SI i1) hpv hp (by omega) hs (by show st.length<_;omega) (by show sps.length<_;omega) (by show vs.length<_;omega) (by show ws.length<_;omega) (by show ta.length<_;omega) (by show ac.length<_;omega) hb OS (by omega) ⟨0,.nil⟩).2 (nH false W) W [.agg c0,.agg c1,v2] (jm hL)
  ⟨rfl,fun j hj=>match j,hj with
    |0,_=>ho
    |1,_=>hsc
    |2,_=>hvb
    |n+3,h=>absurd h (by simp)⟩
 refine hS.mono fun e W' ⟨G',hw,hE,hO⟩=>?_
 have he:e=.returned (.bool true):=by
  cases e with
  |returned u=>
   cases hO with
   |bool b=>rfl
  |_=>exact hO.elim
 subst he
 have same:∀x:MemPlace,x.block<W.heap.size->W.sameAt W' x:=fun x hx=>by
  cases x with
  |cell b o=>have Vm:b<W.heap.size:=hx;show W'.cell? ⟨b,o,none⟩=W.cell? ⟨b,o,none⟩;simp only[World.cell?,BI hE Vm]
  |map b=>exact BI hE hx
 have eW:∀x∈(p0++p1++p2)++[],x.block<W.heap.size:=fun x hx=>by simpa using hW'.lt x hx
 have stay:∀{sp:Nat->Bool} {t:TypeId} {v:Value} {d:DataW H} {ps:List MemPlace},Tryz.prog.readableRec t=true->t<Tryz.prog.types.size->DataW.Trod enc Tryz.prog W 0 (fun _=>true) true t v d ps->(∀x∈ps,x∈(p0++p1++p2)++[])->
  (∀x∈(p0++p1++p2)++[],sp x.block=true)->DataW.Trod enc Tryz.prog W' 0 sp true t v d ps:=fun hr tQ h gU iq=>
  WideElems.Trod_stays laidOut hr tQ h (fun x hx=>same x (eW x (gU x hx))) fun x hx=>iq x (gU x hx)
 refine⟨_,rfl,QQ (pa:=p0++p1++p2) (pv:=[]) hE hW' (fun _ _ _=>trodAll_mk1 (shut_bool Tryz.underlying4 _)) (fun sp iq=>?_) (fun _ _=>rfl) (by simp) (ok_one (by kernel_rfl) rfl (okWide_bool_mk Tryz.underlying4 _))⟩;rw[Bg]
 exact trodAll_mk3 (stay (by kernel_rfl) (Dq (by kernel_rfl)) h0k (fun x hx=>by simp[hx]) iq) (stay (by kernel_rfl) (Dq (by kernel_rfl)) h1k (fun x hx=>by simp[hx]) iq)
  (stay (by kernel_rfl) (Dq (by kernel_rfl)) h2k (fun x hx=>by simp[hx]) iq)
end
end Go.Proofs.YtgggiembljfnhaaGreatDoor
