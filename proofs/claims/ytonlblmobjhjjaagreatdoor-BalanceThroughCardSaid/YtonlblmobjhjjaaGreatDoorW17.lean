import Derived.Test.YtonlblmobjhjjaaGreatDoorW15
import Derived.Test.YtonlblmobjhjjaaGreatDoorW16
set_option linter.unusedVariables false
set_option linter.unusedSimpArgs false
namespace Go.Proofs.YtonlblmobjhjjaaGreatDoor
set_option maxHeartbeats 8000000
set_option maxRecDepth 100000
variable {i : Nat} {ps : List Int} {s : ByteArray} {x : bP}
section
section
variable {x:bP} {part:List ByteArray}
theorem FP{nodes:List ByteArray}(h:s∈nodes):nodes[bL nodes s]?=some s:=by
 rcases o3 (fun y=>k_ s y) nodes 0 with⟨_,h2⟩ | ⟨j,y,h1,h2,h3,_⟩
 ·exact absurd rfl (wD.1 (h2 s h))
 ·have hy:y=s:=(iY.1 h3).symm
  subst hy;unfold bL;rw[h1,Nat.zero_add,oL];exact h2
def cN(x:bP)(part:List ByteArray)(i:Nat):Bool:=ct part (x.nodes.getD i ⟨#[]⟩)
theorem KG(h:x.nodes[i]?=some s):cN x part i=ct part s:=by unfold cN;rw[dQ,h];rfl
theorem ZG(hb:n_ x part=0){k:Nat}(hi:i<x.nodes.length)(hk:k<x.nodes.length)(h:fL x i=fL x k):cN x part i=cN x part k:=by
 obtain⟨hn,hs⟩:=m6 hb;have ok:=fH hn;have h1:=(aCi ok hi hk).1 h;have h2:=AM (e:=fun i=>if cN x part i then(1:Rat) else 0) (FA ok false).1 (fun p hp=>by
  obtain⟨s,pG,yI⟩:=List.mem_flatMap.1 hp;unfold sL at yI;split at yI
  ·rename_i ho
   rw[List.mem_singleton.1 yI];have h3:CJ part s=false:=by
    cases hx:CJ part s with
    | false=>rfl
    | true=>exact absurd (List.any_eq_true.2 ⟨s,pG,hx⟩) hs
   unfold CJ at h3;rw[ho] at h3;have h4:ct part s.a=ct part s.b:=by
    cases ha:ct part s.a<;>cases hb:ct part s.b<;>simp[ha,hb] at h3<;>rfl
   have hm:=ok.sw s pG;show(if cN x part (bL x.nodes s.a) then(1:Rat) else 0)=if cN x part (bL x.nodes s.b) then 1 else 0;rw[KG (FP hm.1),KG (FP hm.2.1),h4]
  ·cases yI) hi hk h1
 have h5:(if cN x part i then(1:Rat) else 0)=if cN x part k then 1 else 0:=h2;cases ha:cN x part i<;>cases hc:cN x part k<;>simp[ha,hc] at h5<;>rfl
def wP(x:bP)(part:List ByteArray)(j:Nat):Rat:=if(List.range x.nodes.length).any (fun i=>fL x i == j && cN x part i) then 1 else 0
theorem aCR(hb:n_ x part=0)(hi:i<x.nodes.length):wP x part (fL x i)=if cN x part i then 1 else 0:=by
 unfold wP;cases hc:cN x part i with
 | true=>
  rw[if_pos (List.any_eq_true.2 ⟨i,List.mem_range.2 hi,by simp[hc]⟩),if_pos rfl]
 | false=>
  rw[if_neg,if_neg (by simp)];intro h;obtain⟨k,hk,yK⟩:=List.any_eq_true.1 h;simp only[Bool.and_eq_true,beq_iff_eq] at yK;have:=ZG hb (List.mem_range.1 hk) hi yK.1;rw[yK.2,hc] at this;cases this
theorem UB(ok:cH x)(al:List Rat)(W:Fn):∀bs:List Br,(∀b∈bs,b∈x.brs)->aP (aN x) (fun j=>W j*sY x al j bs)=wU (bs.map fun b=>(W (aA x b.fr)-W (aA x b.to))*fS x al b)
 | [],_=>cD fun j _=>Rat.mul_zero _
 | b::r,hb=>by
  have rX:=ok.br b (hb b List.mem_cons_self);have hu:=(bT ok rX.1).2.1;have hv:=(bT ok rX.2.1).2.1;have h1:=UB ok al W r fun a ha=>hb a (List.mem_cons_of_mem _ ha);have h2:=OD hu hv W;have h3:aP (aN x) (fun j=>fS x al b*(two (aA x b.fr) (aA x b.to) j*W j))=(W (aA x b.fr)-W (aA x b.to))*fS x al b:=by
   rw[eC,h2,Rat.mul_comm]
  have h4:aP (aN x) (fun j=>W j*sY x al j (b::r))=aP (aN x) (fun j=>fS x al b*(two (aA x b.fr) (aA x b.to) j*W j)+W j*sY x al j r):=aO fun j _=>by
   show W j*(((if aA x b.fr=j then fS x al b else 0)+-(if aA x b.to=j then fS x al b else 0))+sY x al j r)=_;rw[ift (aA x b.fr) j,ift (aA x b.to) j];unfold two;generalize (if j=aA x b.fr then(1:Rat) else 0)=p;generalize (if j=aA x b.to then(1:Rat) else 0)=q;grind
  rw[h4,cM,h3,h1];rfl
theorem YM(ok:cH x)(hb:n_ x part=0){al:List Rat}(hk:d8 x=0)(hf:∀q∈bN x al,bJ q):∀(l:List Br)(k:Nat),x.brs.drop k=l->wU (l.map fun b=>(wP x part (aA x b.fr)-wP x part (aA x b.to))*fS x al b)=-(wU ((iC part l k).map (EK x part ((bN x al).map eH))))
 | [],k,_=>by show(0:Rat)=-0;decide+kernel
 | b::r,k,h=>by
  have M3:x.brs[k]?=some b:=by
   have:=congrArg (fun l=>l[0]?) h;simpa using this
  have hr:x.brs.drop (k+1)=r:=by rw[<-List.drop_drop,h];rfl
  have ih:=YM ok hb hk hf r (k+1) hr;have rX:=ok.br b (cS M3);have hw:∀s,s∈x.nodes->wP x part (aA x s)=if ct part s then 1 else 0:=fun s hs=>by
   have hg:=FP hs;rw[aCj hk hg,aCR hb (c_.1 hg).1,KG hg]
  have C_:(bN x al)[k]?=some (fS x al b):=by unfold bN;rw[pL,M3];rfl
  have hen:EK x part ((bN x al).map eH) (k:Int)=if ct part b.to then fS x al b else -(fS x al b):=by
   unfold EK;rw[oL,pL,C_,M3];show(if ct part b.to then fB (eH (fS x al b)) else -(fB (eH (fS x al b))))=_;rw[(DL (hf _ (cS C_))).2]
  have e1:wU ((b::r).map fun b=>(wP x part (aA x b.fr)-wP x part (aA x b.to))*fS x al b)=(wP x part (aA x b.fr)-wP x part (aA x b.to))*fS x al b+wU (r.map fun b=>(wP x part (aA x b.fr)-wP x part (aA x b.to))*fS x al b):=rfl;have e2:wU ((iC part (b::r) k).map (EK x part ((bN x al).map eH)))=(if(ct part b.fr != ct part b.to) then(if ct part b.to then fS x al b else -(fS x al b)) else 0)+wU ((iC part r (k+1)).map (EK x part ((bN x al).map eH))):=by
   show wU ((if(ct part b.fr != ct part b.to) then(k:Int)::iC part r (k+1) else iC part r (k+1)).map _)=_;by_cases hx:(ct part b.fr != ct part b.to)=true
   ·rw[if_pos hx,if_pos hx,List.map_cons,hen]
    rfl
   ·rw[if_neg hx,if_neg hx,Rat.zero_add]
  have key:∀(p c:Bool)(t q:Rat),((if p then(1:Rat) else 0)-(if c then 1 else 0))*t+-q=-((if(p != c) then(if c then t else -t) else 0)+q):=fun p c t q=>by
   cases p<;>cases c<;>simp<;>grind
  rw[e1,ih,hw _ rX.1,hw _ rX.2.1,e2];exact key _ _ _ _
theorem UC(ok:cH x)(hb:n_ x part=0){ps:List Int}:∀i:Nat,i<=x.nodes.length->aP (aN x) (fun j=>wP x part j*((kA x ps i j:Int):Rat))=aP i fun i=>if cN x part i then((ps.getD i 0:Int):Rat) else 0
 | 0,_=>cD fun j _=>Rat.mul_zero _
 | i+1,h=>by
  have ih:=UC ok hb (ps:=ps) i (by omega);obtain⟨q,hq⟩:∃q,ps.getD i 0=q:=⟨_,rfl⟩;have e:aP (aN x) (fun j=>wP x part j*((kA x ps (i+1) j:Int):Rat))=aP (aN x) (fun j=>wP x part j*((kA x ps i j:Int):Rat)+wP x part j*(if fL x i=j then((q:Int):Rat) else 0)):=aO fun j _=>by
   show wP x part j*((kA x ps i j+(if fL x i=j then ps.getD i 0 else 0):Int):Rat)=_;rw[hq,<-Rat.mul_add];congr 1
   by_cases h2:fL x i=j
   ·rw[if_pos h2,if_pos h2,Rat.intCast_add]
   ·rw[if_neg h2,if_neg h2,Int.add_zero,Rat.add_zero]
  rw[e,cM,ih,dR (k:=fL x i) (zN ok (by omega)).2 (fun j _ cK=>by rw[if_neg (fun e=>cK e.symm),Rat.mul_zero]),if_pos rfl,aCR hb (by omega)];show _=aP i _+if cN x part i then((ps.getD i 0:Int):Rat) else 0;rw[hq]
  split<;>grind
def fF(x:bP)(ps:List Int):List ByteArray->Int->Int
 | [],a=>a
 | s::r,a=>fF x ps r (a-ps.getD (bL x.nodes s) 0)
theorem zZ(ps:List Int):∀(l:List ByteArray)(a:Int),fF x ps l a=a+fF x ps l 0
 | [],a=>(Int.add_zero a).symm
 | s::r,a=>by
  show fF x ps r _=a+fF x ps r _;rw[zZ ps r (a-_),zZ ps r (0-_)];omega
theorem IY{ps:List Int}(hnd:x.nodes.Nodup):∀(l:List ByteArray),l.Nodup->(∀s∈l,s∈x.nodes)->aP x.nodes.length (fun i=>if cN x l i then((ps.getD i 0:Int):Rat) else 0)=-((fF x ps l 0:Int):Rat)
 | [],_,_=>by
  rw[cD fun i _=>by rw[if_neg (by unfold cN ct;simp)]];show(0:Rat)=-((0:Int):Rat);decide+kernel
 | s::r,hn,hm=>by
  obtain⟨h1,h2⟩:=List.nodup_cons.1 hn;have ih:=IY (ps:=ps) hnd r h2 fun a ha=>hm a (List.mem_cons_of_mem _ ha);have hs:=hm s List.mem_cons_self;have hg:=FP hs;have hl:=(c_.1 hg).1;have e:aP x.nodes.length (fun i=>if cN x (s::r) i then((ps.getD i 0:Int):Rat) else 0)=aP x.nodes.length (fun i=>(if cN x r i then((ps.getD i 0:Int):Rat) else 0)+if bL x.nodes s=i then((ps.getD i 0:Int):Rat) else 0):=aO fun i hi=>by
   obtain⟨y,hy⟩:∃y,x.nodes[i]?=some y:=⟨_,jP hi⟩;rw[KG hy,KG hy];by_cases e1:bL x.nodes s=i
   ·have e2:y=s:=by rw[e1,hy] at hg;injection hg
    subst e2;rw[if_pos (mI.2 List.mem_cons_self),if_neg (fun h=>h1 (mI.1 h)),if_pos e1,Rat.zero_add]
   ·have e2:y≠s:=fun e3=>e1 (by rw[e3] at hy;exact((List.getElem?_inj hl hnd).1 (hg.trans hy.symm)))
    rw[if_neg e1,Rat.add_zero];have e3:ct (s::r) y=ct r y:=by
     cases hc:ct r y with
     | true=>exact mI.2 (List.mem_cons_of_mem _ (mI.1 hc))
     | false=>
      cases hd:ct (s::r) y with
      | false=>rfl
      | true=>
       rcases List.mem_cons.1 (mI.1 hd) with e4 | e4
       ·exact absurd e4 e2
       ·rw[mI.2 e4] at hc;cases hc
    rw[e3]
  rw[e,cM,ih,dR hl (fun i _ cK=>if_neg fun e=>cK e.symm),if_pos rfl];show _=-((fF x ps r (0-ps.getD (bL x.nodes s) 0):Int):Rat);rw[zZ ps r (0-_),Rat.intCast_add];have e5:((0-ps.getD (bL x.nodes s) 0:Int):Rat)=-((ps.getD (bL x.nodes s) 0:Int):Rat):=by rw[Int.zero_sub,Rat.intCast_neg]
  rw[e5];grind
theorem wJ{nodes part:List ByteArray}:∀(l:List ByteArray)(k:Nat),part.drop k=l->(part.take k).Nodup->GR nodes part l k=0->part.Nodup/\∀s∈l,s∈nodes
 | [],k,h,hn,_=>by
  have:part.length<=k:=by simpa using h
  rw[oP this] at hn;exact⟨hn,fun s hs=>by cases hs⟩
 | s::r,k,h,hn,h0=>by
  have hk:part[k]?=some s:=by
   have:=congrArg (fun l=>l[0]?) h;simpa using this
  have hr:part.drop (k+1)=r:=by rw[<-List.drop_drop,h];rfl
  unfold GR at h0;split at h0
  ·rename_i h1
   split at h0
   ·omega
   ·rename_i h2
    obtain⟨h3,h4⟩:=wJ r (k+1) hr (by
     rw[List.take_add_one,hk];refine List.nodup_append.2 ⟨hn,by simp,fun a ha b hb=>?_⟩;have:b=s:=by simpa using hb
     rw[this];intro e;exact h2 (mI.2 (by rw[<-e];exact ha))) h0
    refine⟨h3,fun a ha=>?_⟩;rcases List.mem_cons.1 ha with e | e
    ·rw[e];exact mI.1 h1
    ·exact h4 a e
  ·omega
theorem UM(F:E7 x ps)(h:pZ x part ((bN x (gL x ps)).map eH)=0):cO (qP x part ((bN x (gL x ps)).map eH))=((fF x ps part 0:Int):Rat):=by
 obtain⟨hb,-,-⟩:=nV h;obtain⟨hn,hs⟩:=m6 hb;have ok:=fH hn;have hp:GR x.nodes part part 0=0:=by
  unfold n_ at hb;rw[if_pos hn] at hb;split at hb
  ·assumption
  ·rename_i h0;exact absurd hb h0
 obtain⟨h1,h2⟩:=wJ part 0 rfl List.nodup_nil hp;have h3:=UB ok (gL x ps) (wP x part) x.brs fun b hb=>hb;rw[YM ok hb hn F.ff x.brs 0 rfl,aO (g:=fun j=>wP x part j*((kA x ps ps.length j:Int):Rat)) (fun j hj=>by rw[kcl F hj]),F.len,UC ok hb x.nodes.length lR,IY (xU hn) part h1 h2] at h3;unfold qP qQ;rw[if_pos h,if_pos hb,QJ];grind
end
end
section
open Go.ChangeShapes Go.WideShapes Go.ChangeAt Go.RowKit
attribute [local go_sem ↓] aE
attribute [local go_sem] aJ aI aL aX
theorem LW{ms:List Mi}{v:List Vc}(h:iX x ms v=true):x.nodes.length<=8/\x.brs.length<=10:=by
 unfold iX at h;simp only[Bool.and_eq_true,decide_eq_true_eq,List.all_eq_true] at h;exact⟨h.1.1.1,h.1.1.2⟩
theorem aBu(h:s∈x.nodes):AR x s=(bL x.nodes s:Int):=by
 have h1:=(nQ h).1;unfold AR;rw[<-h1];congr 1
 funext z
 rw[Bool.eq_iff_iff,iY,iY];exact⟨fun h=>h.symm,fun h=>h.symm⟩
theorem yX{x:bP}(hr:∀p∈ps,-100000<=p/\p<=100000):∀(l:List ByteArray)(a:Int),a-100000*l.length<=fF x ps l a/\fF x ps l a<=a+100000*l.length
 | [],a=>by show a-100000*0<=a/\a<=a+100000*0;omega
 | s::r,a=>by
  have ih:=yX (x:=x) hr r (a-ps.getD (bL x.nodes s) 0);have hb:-100000<=ps.getD (bL x.nodes s) 0/\ps.getD (bL x.nodes s) 0<=100000:=by
   rw[dQ];cases h:ps[bL x.nodes s]? with
   | none=>show -100000<=(0:Int)/\(0:Int)<=100000;omega
   | some p=>exact hr p (cS h)
  show _<=fF x ps r _/\fF x ps r _<=_;rw[G4];omega
theorem SD{z:Int}(h0:-1000000<=z)(h1:z<=1000000):bJ ((z:Int):Rat):=Tn.fits (k:=7) ⟨by rw[Rat.num_intCast];omega,by rw[Rat.den_intCast];decide⟩ (by decide)
theorem UN{part:List ByteArray}(F:E7 x ps)(hl:part.length<=6):pZ x part ((bN x (gL x ps)).map eH)=n_ x part/\inE x part ((bN x (gL x ps)).map eH)=n_ x part/\(n_ x part≠0->W4 x part ((bN x (gL x ps)).map eH)=⟨#[]⟩/\qQ x part=[])/\(n_ x part=0->W4 x part ((bN x (gL x ps)).map eH)=rnS (Rat.divInt (fF x ps part 0) 1)/\(∀s∈part,s∈x.nodes)):=by
 have e0:pZ x part ((bN x (gL x ps)).map eH)=n_ x part:=by
  unfold pZ;split
  ·rename_i h
   rw[if_pos (by unfold bN;rw[kJ,kJ]),nX.2,h];intro s hs;obtain⟨q,hq,rfl⟩:=List.mem_map.1 hs;exact(DL (F.ff q hq)).1
  ·rfl
 have hu:=yX (x:=x) F.rng part 0;by_cases h:n_ x part=0
 ·have h1:=UM F (part:=part) (e0.trans h)
  have hf:bJ (cO (qP x part ((bN x (gL x ps)).map eH))):=by rw[h1];exact SD (by omega) (by omega)
  have e1:Rat.divInt (fF x ps part 0) 1=((fF x ps part 0:Int):Rat):=by rw[Rat.divInt_eq_div,show((1:Int):Rat)=1 from rfl,Rat.div_def,show(1:Rat)⁻¹=1 by decide+kernel,Rat.mul_one]
  refine⟨e0,?_,fun h2=>absurd h h2,fun _=>⟨?_,fun s hs=>by
   have hp:GR x.nodes part part 0=0:=by
    have hb:=h;unfold n_ at hb;rw[if_pos (m6 h).1] at hb;split at hb
    ·assumption
    ·rename_i h0;exact absurd hb h0
   exact(wJ part 0 rfl List.nodup_nil hp).2 s hs⟩⟩
  ·unfold inE
   rw[if_pos (e0.trans h),U6 hf,h]
  ·unfold W4
   rw[if_pos (e0.trans h),h1,e1]
 ·refine⟨e0,?_,fun _=>⟨?_,?_⟩,fun h2=>absurd h2 h⟩
  ·unfold inE
   rw[if_neg (by rw[e0];exact h),e0]
  ·unfold W4
   rw[if_neg (by rw[e0];exact h)]
  ·unfold qQ
   rw[if_neg h]
theorem aGG(h:cQ)(x:bP)(A:OA)(n c:Nat)(part:List ByteArray)(I:OA)(ni ci:Nat)(ps:List Int)(w:Wo)(r:cX w w.heap.size h x)(hpt:aW w w.heap.size A n part)(hn:n<=9223372036854775807)(GU:n<=c)(hc:c<=9223372036854775807)(hp:oA w w.heap.size I ni ps)(hni:ni<=9223372036854775807)(ht:eY w):Calls Tryz.prog 5 #[.agg h.cells,.slice A n c,.slice I ni ci] w fun e w'=>e=.returned (.bool true)/\Below w.heap.size w w':=by
 obtain⟨k,hk6,FX,hm⟩:∃k:Nat,k<=6/\k<=n/\min (n:Int) 6=(k:Int):=by
  by_cases h:(6:Int)<(n:Int)
  ·exact⟨6,by omega,by omega,by omega⟩
  ·exact⟨n,by omega,by omega,by omega⟩
 have hkc:(k:Int)<=(c:Int):=by omega
 have HK6:=lH hk6;have K0:=vM w (.cells h.cells 29);obtain⟨HK,P0,HX,HI,PY⟩:=mP K0 (aD.new w 29 h.cells) (r.up K0) (hp.bm K0) (((hpt.take FX).below K0 lR).more K0.size);have HT:=lH (ht.up K0);have HIL:Hid (ps.length=ni):=lH hp.len;have HL6:Hid ((part.take k).length=k):=lH (hpt.take FX).1;have B9:Hid (w.heap.size<=(w.alloc (.cells h.cells 29)).heap.size):=lH K0.size;clear K0 r ht hp hpt;generalize zJ:part.take k=zs at *;clear zJ;obtain⟨D0,r0,s0,D1,r1,s1,D2,r2,s2,D3,r3,s3,D4,r4,s4,D5,r5,s5⟩:=h;go_enter Tryz.func5,Tryz.ntmps5
 go_wp2_with fail
 generalize w.alloc (.cells (cQ.cells ⟨D0,r0,s0,D1,r1,s1,D2,r2,s2,D3,r3,s3,D4,r4,s4,D5,r5,s5⟩) 29)=W at *;refine(NO W HT.o).mono ?_;rintro e w1 ⟨rfl,bG⟩;have cR:=lH (HK.o.trans (bG.mono B9.o));replace HX:=lH (HX.o.up bG);replace HI:=lH (HI.o.bm bG);replace PY:=lH (PY.o.bm bG);replace P0:=lH (P0.o.bl bG);replace HT:=lH (HT.o.up bG);clear bG HK B9;have PNX:=P0.o;obtain⟨y0,y1,y2,y3,y4,y5,nf,nlt⟩:=cG PNX;dsimp only at y0 y1 y2 y3 y4 y5;clear PNX
 go_wp2_with fail
 clear y0 y1 y2 y3 y4 y5 nf nlt;refine(QQ _ x none 0 0 [] none 0 0 [] w1 HX.o ⟨rfl,rfl,fun h=>absurd h (by decide)⟩ (aD6 _ _) (by decide) (by decide)).mono ?_;rintro e w2 ⟨rfl,bV⟩;have dB:=bX cR bV;replace HX:=lH (HX.o.up bV);replace HI:=lH (HI.o.bm bV);replace PY:=lH (PY.o.bm bV);replace P0:=lH (P0.o.bl bV);replace HT:=lH (HT.o.up bV);clear bV cR;cases hsm:iX x [] [] with
 | false=>
  (go_wp2_with fail);go_ret;exact⟨rfl,dB.o⟩
 | true=>
  obtain⟨h8,-⟩:=LW hsm;clear hsm;have PNX:=P0.o;obtain⟨y0,y1,y2,y3,y4,y5,nf,nlt⟩:=cG PNX;dsimp only at y0 y1 y2 y3 y4 y5;clear PNX;(go_wp2_with fail);clear y0 y1 y2 y3 y4 y5 nf nlt;refine(QO _ x h8 I ni ci ps w2 HX.o HI.o hni HT.o).mono ?_;rintro e w3 ⟨eF,aDp⟩;obtain⟨A1,n1,c1,B1,m1,d1,z1,rfl,h1⟩:∃A1 n1 c1 B1 m1 d1 z1,e=.returned (.tuple #[.agg #[.slice A1 n1 c1,.slice B1 m1 d1],.int .i64 z1])/\(z1=0->E7 x ps/\aW w3 w3.heap.size B1 m1 ((bN x (gL x ps)).map eH)):=by
   rcases aDp with⟨d,hd,rfl⟩ | ⟨hk,A,n,c,B,m,d,rfl,h1,h4,-⟩
   ·exact⟨_,_,_,_,_,_,_,rfl,fun h=>absurd h hd⟩
   ·exact⟨_,_,_,_,_,_,_,rfl,fun _=>⟨hk,h4⟩⟩
  clear aDp;have hz:=vM w3 (.cells #[.slice A1 n1 c1,.slice B1 m1 d1] 57);have h_:=eF.tm hz;have bH:=bX dB h_;have PS:=lH (aD.new w3 57 #[.slice A1 n1 c1,.slice B1 m1 d1]);have H1:Hid (z1=0->E7 x ps/\aW (w3.alloc (.cells #[.slice A1 n1 c1,.slice B1 m1 d1] 57)) (w3.alloc (.cells #[.slice A1 n1 c1,.slice B1 m1 d1] 57)).heap.size B1 m1 ((bN x (gL x ps)).map eH)):=lH fun kT=>by
   obtain⟨hk,b1⟩:=h1 kT;exact⟨hk,(b1.below hz lR).more hz.size⟩
  replace HX:=lH (HX.o.up h_);replace HI:=lH (HI.o.bm h_);replace PY:=lH (PY.o.bm h_);replace P0:=lH (P0.o.bl h_);replace HT:=lH (HT.o.up h_);clear eF hz h_ h1 dB;(go_upto_region 7 with fail);generalize w3.alloc (.cells #[.slice A1 n1 c1,.slice B1 m1 d1] 57)=w4 at *;generalize w3.heap.size=gs at *;by_cases kT:z1=0
  case neg=>
   have hzb:(z1 != 0)=true:=by simp[kT]
   clear kT;(go_wp2_with fail);go_ret;exact⟨rfl,bH.o⟩
  subst kT;obtain⟨F,C_⟩:=H1.o rfl;have HF:=lH F;have DH:=lH C_;obtain⟨t0,t1,t2,t3⟩:=UN F (part:=zs) (by rw[HL6.o];exact hk6);obtain⟨Z6,HT2,HT3⟩:=eR t1 t2 t3;have HM1:Hid (m1<=9223372036854775807):=lH (by
   have:=C_.1;have hn:=fH F.ck;unfold bN at this;rw[kJ,kJ] at this;have:=hn.l2;omega)
  have yD:Hid (x.nodes.length=r0):=lH HX.o.r0.1;have zQ:Hid (ps.length=x.nodes.length):=lH F.len;have HFS:Hid (∀s∈(bN x (gL x ps)).map eH,s.size<=maxLen):=lH fun s hs=>by
   obtain⟨q,hq,rfl⟩:=List.mem_map.1 hs;have:=UJ (F.ff q hq);unfold maxLen;omega
  clear F C_ t0 t1 t2 t3 H1;have PNX:=P0.o;obtain⟨y0,y1,y2,y3,y4,y5,nf,nlt⟩:=cG PNX;dsimp only at y0 y1 y2 y3 y4 y5;clear PNX;have p1:=PS.out.cell 1;have pl:=PS.out.lt;(go_wp2_with fail);clear y0 y1 y2 y3 y4 y5 nf nlt p1 pl;refine(MP _ x A k c zs B1 m1 d1 ((bN x (gL x ps)).map eH) w4 HX.o PY.o DH.o HFS.o (by omega) (by omega) hc HM1.o HT.o).mono ?_;rintro e w5 ⟨rfl,eS⟩;rw[Z6.o];have dK:=bX bH eS;replace HX:=lH (HX.o.up eS);replace HI:=lH (HI.o.bm eS);replace PY:=lH (PY.o.bm eS);replace P0:=lH (P0.o.bl eS);replace HT:=lH (HT.o.up eS);clear eS bH DH PS;have PNX:=P0.o;obtain⟨y0,y1,y2,y3,y4,y5,nf,nlt⟩:=cG PNX;dsimp only at y0 y1 y2 y3 y4 y5;clear PNX;(go_wp2_with fail);clear y0 y1 y2 y3 y4 y5 nf nlt;refine(pB _ x A k c zs w5 HX.o PY.o (by omega) (by omega) hc).mono ?_;rintro e w6 ⟨eE,A6,n6,c6,rfl,CN,-,-⟩;have N4:Hid ((qQ x zs).length=n6):=lH CN.len;have d6:=bX dK eE;replace HX:=lH (HX.o.up eE);replace HI:=lH (HI.o.bm eE);replace PY:=lH (PY.o.bm eE);replace P0:=lH (P0.o.bl eE);replace HT:=lH (HT.o.up eE);clear eE dK CN;by_cases hz:n_ x zs=0
  case neg=>
   obtain⟨e1,e2⟩:=HT2.o hz;have hn6:n6=0:=by rw[<-N4.o,e2];rfl
   subst hn6;rw[e1];generalize n_ x zs=zz at *;have hzb:(zz != 0)=true:=by simp[hz]
   clear hz e1 e2;(go_wp2_with fail);go_ret;exact⟨rfl,d6.o⟩
  obtain⟨e1,e2⟩:=HT3.o hz;have HMB:=lH e2;rw[hz,e1];generalize hS:rnS (Rat.divInt (fF x ps zs 0) 1)=S0;have HS:=lH hS;clear hz e1 e2 Z6 HT2 HT3 hS;(go_wp2_with fail)
  go_loopw [13,64] (fun v13 v64 wr=>∃(i:Nat),i<=k/\v64=.int .i64 i/\v13=.int .i64 (fF x ps (zs.take i) 0)/\Below w6.heap.size w6 wr) (fun _ v64 _=>k-(intOf v64).toNat)
  case atStart=>exact⟨0,by omega,rfl,rfl,bR⟩
  case round=>
   obtain⟨i,hi,rfl,rfl,hb⟩:=hrel;have HB:=lH hb;clear hb;by_cases aR:i<k
   ·obtain⟨s,hs⟩:∃s,zs[i]?=some s:=eG (by have:=HL6.o;omega)
    have RU:=HMB.o s (cS hs);have tR:Hid (AR x s=(bL x.nodes s:Int)):=lH (aBu RU);have hdl:=(nQ RU).2;obtain⟨pb,po,hA,hpb⟩:=(PY.o.below HB.o lR).form (by omega);subst hA;have TT:=(PY.o.below HB.o lR).at_ hs;obtain⟨y,hy⟩:∃y,ps[bL x.nodes s]?=some y:=eG (by rw[zQ.o];exact hdl);have HUS:Hid (fF x ps (zs.take (i+1)) 0=fF x ps (zs.take i) 0-y):=lH (by
     rw[fG hs];have key:∀(l:List ByteArray)(a:Int),fF x ps (l++[s]) a=fF x ps l a-ps.getD (bL x.nodes s) 0:=by
      intro l
      induction l with
      | nil=>exact fun a=>rfl
      | cons t r ih=>exact fun a=>ih _
     rw[key,dQ,hy];rfl)
    have HY:=lH (HF.o.rng y (cS hy));have HUB:=lH (yX (x:=x) HF.o.rng (zs.take i) 0);have LF:Hid ((zs.take i).length=i):=lH (by rw[kC,HL6.o];omega);have CZ:(i:Int)<(k:Int):=by omega
    have yC:=lN i;have p5:Hid (k-(i+1)<k-i):=lH (by omega);have HXr:=lH (HX.o.up HB.o);have HYY:=lH hy;have tN:pb<wr.heap.size:=jJ hpb HB.o.size;have aTD:bL x.nodes s<ni:=by rw[<-HIL.o,zQ.o];exact hdl
    have hui:-(100000*6)<=fF x ps (zs.take i) 0/\fF x ps (zs.take i) 0<=100000*6:=by have h1:=HUB.o;have h2:=LF.o;rw[h2] at h1;omega
    generalize fF x ps (zs.take i) 0=u at *;generalize bL x.nodes s=d at *;clear hs RU hpb hdl hy;have PNX:=P0.o.bl HB.o;obtain⟨y0,y1,y2,y3,y4,y5,nf,nlt⟩:=cG PNX;dsimp only at y0 y1 y2 y3 y4 y5;clear PNX;(go_wp2_with fail);clear y0 y1 y2 y3 y4 y5 nf nlt;refine(IP _ x s wr HXr.o).mono ?_;rintro e w7 ⟨rfl,fR⟩;rw[tR.o];have gN:=bX HB fR;have hI7:=HI.o.below gN.o lR;obtain⟨ib,io,hA7,hib,-⟩:=hI7.2 (by omega);subst hA7;have ci:=hI7.at_ HYY.o;have FY:ib<w7.heap.size:=jJ hib gN.o.size;have hd0:=lZ d;have hdI:(d:Int)<(ni:Int):=by omega
    have hdn:=oL d;have hw:IntKind.i64.wrap (u-y)=u-y:=IntWalk.i64_in _ (by have:=HY.o;omega);clear fR hI7 hib TT;(go_wp2_with fail);go_roundw
    case rel=>exact⟨i+1,aR,aM yC.o,by rw[HUS.o],gN.o⟩
    case measure=>exact p5.o
   ·have RZ:i=k:=by omega
    have CZ:¬(i:Int)<(k:Int):=by omega
    have HUB:=lH (yX (x:=x) HF.o.rng zs 0);have hui:-(100000*6)<=fF x ps zs 0/\fF x ps zs 0<=100000*6:=by have h1:=HUB.o;rw[HL6.o] at h1;omega
    rw[oP (by rw[HL6.o];omega)];generalize fF x ps zs 0=u at *;(go_wp2_with fail);refine(VQ u 1 wr (by omega) (by omega) (by decide) (by decide) (by decide) (HT.o.up HB.o)).mono ?_;rintro e w7 ⟨rfl,fR⟩;rw[HS.o];have gN:=lH (d6.o.trans ((HB.o.tm fR).mono d6.o.size));clear fR;(go_wp2_with fail);go_ret;exact⟨rfl,gN.o⟩
end
