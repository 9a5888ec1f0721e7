import Derived.Test.YthgdchffeigkbaaGreatDoorV07
import Derived.Test.YthgdchffeigkbaaGreatDoorV09
import Derived.StillTailTactics
import Derived.Deep.LoopGhost
set_option linter.unusedVariables false
set_option linter.unusedSimpArgs false
namespace Go.Proofs.YthgdchffeigkbaaGreatDoor
set_option maxHeartbeats 8000000
set_option maxRecDepth 100000
variable {A : OA} {B g i k n : Nat} {l out : List Int} {m : Int} {v : Value} {w w' : World} {x : bO} {xs : List Value}
section
open Go.ChangeShapes Go.WideShapes Go.ChangeAt Go.RowKit
attribute [local go_sem ↓] aE
attribute [local go_sem] aJ aI aM
theorem Qu.away{base:Nat}(h:Qu w base v xs){q:Addr}(hq:q.block<base)(u:Value):Qu (w.setCell q u) base v xs:=by
 obtain⟨g,off,cap,h1,h2,h3,h4,h5,h6,h7⟩:=h.ex;have hb:Below q.block w (w.setCell q u):=(Below.refl _ w).setCell lR u;have hc:∀j,(w.setCell q u).cell? ⟨g,off+j,none⟩=w.cell? ⟨g,off+j,none⟩:=fun j=>World.cell?_setCell_other _ _ _ _ (fun e=>by subst e;simp at hq;omega);have hfz:∀j,(w.setCell q u).frozen? ⟨g,off+j,none⟩=w.frozen? ⟨g,off+j,none⟩:=fun j=>by
  obtain⟨qb,qo,qs⟩:=q;cases qs with
  | none=>exact World.frozen?_setCells qb [u] qo w _
  | some s=>simp
 exact⟨g,off,cap,h1,h2,jE h3 hb.size,h4,h5,fun j hj=>by rw[hc,hfz];exact h6 j hj,fun j x hx=>by rw[hc];exact h7 j x hx⟩
def d9(l:List Nat):List Int:=l.map fun(v:Nat)=>(v:Int)
theorem XB:(Tryz.prog.info? 3).map (fun i=>(i.zero,i.size,i.bytes))=some (some (.int .i64 0),1,8):=by kernel_rfl
def QZ(p:Nat×Nat):List Value:=[.int .i64 p.1,.int .i64 p.2]
def UA(w:Wo)(B:Nat)(A:OA)(n:Nat)(es:List (Nat×Nat)):Prop:=es.length=n/\Rd w B 2 A n (es.flatMap QZ)
theorem UA.below{B':Nat}{xs:List (Nat×Nat)}(h:UA w B A n xs)(hb:Below B' w w')(hB:B<=B'):UA w' B A n xs:=⟨h.1,h.2.below hb hB⟩
theorem UA.more{B':Nat}{xs:List (Nat×Nat)}(h:UA w B A n xs)(hB:B<=B'):UA w B' A n xs:=⟨h.1,h.2.more hB⟩
theorem UA.form{xs:List (Nat×Nat)}(h:UA w B A n xs)(h0:0<n):∃b off,A=some ⟨b,off,none⟩/\b<B:=by
 obtain⟨b,off,e,aU,_⟩:=h.2.2 h0;exact⟨b,off,e,aU⟩
theorem UA.at_{b off:Nat}{xs:List (Nat×Nat)}(h:UA w B (some ⟨b,off,none⟩) n xs){x:Nat×Nat}(hx:xs[i]?=some x):w.cell? ⟨b,off+i*2,none⟩=some (.int .i64 x.1)/\w.cell? ⟨b,off+i*2+1,none⟩=some (.int .i64 x.2):=by
 have hl:i<xs.length:=(dH.1 hx).1;have h1:=h.1;obtain⟨b',off',e,_,hc⟩:=h.2.2 (by omega);injection e with e;injection e with e1 e2;subst e1;subst e2;have hf:=fun k hk=>lC (el:=QZ) (sz:=2) (fun _=>rfl) xs i x hx k hk;exact⟨hc _ _ (hf 0 (by omega)),by rw[Nat.add_assoc];exact hc _ _ (hf 1 (by omega))⟩
theorem aEK{es:List (Nat×Nat)}(hi:i<n)(h:0<=out.getD i 0):OO n es (n-i) i (out,m)=OO n es (n-(i+1)) (i+1) (out,m):=by
 obtain⟨k,hk⟩:∃k,n-i=k+1:=⟨n-i-1,by omega⟩;rw[hk,show n-(i+1)=k from by omega];show(if 0<=out.getD i 0 then _ else _)=_;rw[if_pos h]
theorem aEJ{es:List (Nat×Nat)}(hi:i<n)(h:¬0<=out.getD i 0):OO n es (n-i) i (out,m)=OO n es (n-(i+1)) (i+1) (rH m es (n+1) (out.set i m) [i],m+1):=by
 obtain⟨k,hk⟩:∃k,n-i=k+1:=⟨n-i-1,by omega⟩;rw[hk,show n-(i+1)=k from by omega];show(if 0<=out.getD i 0 then _ else _)=_;rw[if_neg h]
theorem aEL{es:List (Nat×Nat)}{f:Nat}:rH m es f out []=out:=by cases f<;>rfl
theorem aI6{es:List (Nat×Nat)}{f u:Nat}{q:List Nat}(hf:0<f):rH m es f out (u::q)=rH m es (f-1) (lJ u m es (out,q)).1 (lJ u m es (out,q)).2:=by
 obtain⟨k,rfl⟩:∃k,f=k+1:=⟨f-1,by omega⟩;rfl
theorem VZ{u:Nat}{es:List (Nat×Nat)}{x:Nat×Nat}{s:List Int×List Nat}(h:es[k]?=some x):lJ u m (es.drop k) s=lJ u m (es.drop (k+1)) (fG u m s x):=by
 rw[cM h];rfl
theorem t7(h:aG w g 3 (ints l).toArray)(hi:i<l.length):w.cell? ⟨g,i,none⟩=some (.int .i64 (l.getD i 0)):=by
 rw[h.cell,List.getElem?_toArray];unfold ints;rw[iY,dN,iB hi];rfl
theorem I4(h:aG w g 3 (ints l).toArray)(v:Int):aG (w.setCell ⟨g,i,none⟩ (.int .i64 v)) g 3 (ints (l.set i v)).toArray:=by
 have h:=h.set_ i (.int .i64 v);rw[show(ints l).toArray.setIfInBounds i (.int .i64 v)=(ints (l.set i v)).toArray from by unfold ints;rw[List.setIfInBounds_toArray,List.map_set]] at h;exact h
theorem yC(q:List Nat)(a:Nat):ints (d9 q)++[Value.int .i64 (a:Int)]=ints (d9 (q++[a])):=by
 unfold ints d9;rw[List.map_append,List.map_append];rfl
def aHg(n:Nat)(es:List (Nat×Nat))(w:Wo)(e:Ending)(w':Wo):Prop:=
 Below w.heap.size w w'/\∃g:Nat,e=.returned (.slice (some ⟨g,0,none⟩) n n)/\w.heap.size<=g/\aG w' g 3 (ints (gR n es)).toArray
theorem aBQ(n:Nat)(es:List (Nat×Nat))(w:Wo)(e:Ending)(w':Wo)(h:Below w.heap.size w w'/\∃g:Nat,e=.returned (.slice (some ⟨g,0,none⟩) n n)/\w.heap.size<=g/\aG w' g 3 (ints (gR n es)).toArray):aHg n es w e w':=h
theorem aBP(A:OA)(c n:Nat)(es:List (Nat×Nat))(w:Wo)(hE:UA w w.heap.size A es.length es)(ok:∀x∈es,x.1<n/\x.2<n)(hn:n<=1000)(he:es.length<=1000):Calls Tryz.prog 133 #[.int .i64 n,.slice A es.length c,.int .i64 (-1)] w (aHg n es w):=by
 obtain⟨HE,bU,HP⟩:=d_ hE ok (aBQ n es w);clear hE ok;obtain⟨i0,kA,LO,IA,hi3⟩:=info_parts XB;obtain⟨L4,E9,QF⟩:=d_ kA LO IA;have LB:Hid (i0.bytes<=16):=lH (by rw[hi3];decide);clear kA LO IA hi3;have bT:Hid (Below w.heap.size w (w.alloc (.cells #[.int .i64 (-1)] 3))):=lH (bA);have S3:(w.alloc (.cells #[.int .i64 (-1)] 3)).cell? ⟨w.heap.size,0,none⟩=some (.int .i64 (-1)):=(aG.new w 3 #[.int .i64 (-1)]).cell 0;go_enter Tryz.func133,Tryz.ntmps133
 generalize hW1:w.alloc (.cells #[.int .i64 (-1)] 3)=w1 at *
 go_wp2_with fail
 refine(VQ (-1) w.heap.size n w1 S3 hn).mono ?_;rintro e w2 ⟨g,rfl,hg,dC,k2⟩;have cH:=bW bT k2;have iJ:Hid (aG w2 g 3 (ints (List.replicate n (-1))).toArray):=lH (by unfold ints;rw[List.map_replicate];exact dC);have hwg:w.heap.size<=g:=cO bT.o.size hg;clear dC k2 S3 hW1 hg bT
 go_wp2_with fail
 go_loopw [8,19] (fun v8 v19 wr=>∃(i:Nat)(out:List Int)(m:Int),i<=n/\v19=.int .i64 i/\v8=.int .i64 m/\OO n es (n-i) i (out,m)=OO n es n 0 (List.replicate n (-1),0)/\Ps n m out []/\0<=m/\m<=i/\Below w.heap.size w wr/\aG wr g 3 (ints out).toArray) (fun _ v19 _=>n-(intOf v19).toNat)
 case atStart=>exact⟨0,List.replicate n (-1),0,by omega,rfl,rfl,rfl,⟨by simp,fun _ h=>(by cases h),fun x hx=>(by rw[List.eq_of_mem_replicate hx];omega)⟩,by omega,by omega,cH.o,iJ.o⟩
 case round=>
  clear cH iJ;obtain⟨i,out,m,hi,rfl,rfl,hf,DF,M9,mZ,hb,dC⟩:=hrel;obtain⟨HF,AS,HB,HG⟩:=iK hf DF hb dC;have hol:=DF.len;have zV:=dC.lt;clear hf DF hb dC;by_cases aU:i<n
  ·have jI:=t7 HG.o (by rw[hol];exact aU)
   have hfz:=HG.o.frozen i;have DH:(i:Int)<(n:Int):=by omega
   by_cases hz:0<=out.getD i 0
   ·have HZ:=lH hz
    have HGE:decide (out.getD i 0<0)=false:=decide_eq_false (by omega);generalize out.getD i 0=z at jI hz HGE;have YW:=lH hol;clear hol HGE;(go_wp2_with fail);go_roundw
    case rel=>exact⟨i+1,out,m,by omega,by go_num,rfl,by rw[<-HF.o,aEK aU HZ.o],AS.o,M9,by omega,HB.o,HG.o⟩
    case measure=>simp[intOf];omega
   ·have HZ:=lH hz
    have aMo:Hid (i<out.length):=lH (by rw[hol];exact aU);have YW:=lH hol;have aUO:Hid (out.getD i 0<0):=lH (by omega);generalize out.getD i 0=z at jI hz;have hz':z<0:=by omega
    have dY:=lH (HB.o.setCell (p:=⟨g,i,none⟩) (by simp;omega) (.int .i64 m));have N1:=lH (I4 (i:=i) HG.o m);clear hz hol;(go_wp2_with fail);have bM:=lH (dY.o.alloc dY.o.size (.cells #[.int .i64 i] 3));have HG4:=lH (N1.o.alloc (.cells #[.int .i64 i] 3));have HQ4:Hid (Qu ((wr.setCell ⟨g,i,none⟩ (.int .i64 m)).alloc (.cells #[.int .i64 i] 3)) (g+1) (.slice (some ⟨wr.heap.size,0,none⟩) 1 1) (ints (d9 [i]))):=lH (by
     have hb:=aG.new (wr.setCell ⟨g,i,none⟩ (.int .i64 m)) 3 #[.int .i64 i];have iV:(wr.setCell ⟨g,i,none⟩ (.int .i64 m)).heap.size=wr.heap.size:=by simp
     rw[iV] at hb;refine⟨wr.heap.size,0,1,rfl,by omega,hb.lt,lR,by simp only[maxLen];omega,fun j hj=>?_,fun j u hu=>?_⟩
     ·have GE:j=0:=by omega
      subst GE;exact⟨by rw[hb.cell 0];rfl,hb.frozen 0⟩
     ·have GE:j=0:=by have:=(dH.1 hu).1;simpa[ints,d9] using this
      subst GE;rw[Nat.add_zero,hb.cell 0];simpa[ints,d9] using hu)
    have hs4:g+1<=((wr.setCell ⟨g,i,none⟩ (.int .i64 m)).alloc (.cells #[.int .i64 i] 3)).heap.size:=by simp;omega
    have aUz:Hid (Ps n m (out.set i m) [i]):=lH ⟨by simp[YW.o],fun v hv=>by rw[List.mem_singleton.1 hv];exact aU,fun x hx=>by
     rcases List.mem_or_eq_of_mem_set hx with hx | rfl
     ·exact AS.o.bd x hx
     ·omega⟩
    have HM4:Hid (([i]:List Nat).length+B8 (out.set i m)<=n+1):=lH (by
     have h1:=B7 out i m M9 aMo.o aUO.o;have h2:=Z4 out;have h3:=YW.o;simp;omega)
    generalize hW4:(wr.setCell ⟨g,i,none⟩ (.int .i64 m)).alloc (.cells #[.int .i64 i] 3)=w4 at *;obtain⟨R0,hR0⟩:∃R0,R0=rH m es (n+1) (out.set i m) [i]:=⟨_,rfl⟩;have E6:=lH hR0;clear hW4 jI hfz dY N1 aMo aUO hR0
    go_loopg [10] (n+1) (fun f v10 wr=>∃(out:List Int)(q:List Nat),Ps n m out q/\rH m es f out q=R0/\q.length+B8 out<=f/\f<=n+1/\Below w.heap.size w wr/\aG wr g 3 (ints out).toArray/\Qu wr (g+1) v10 (ints (d9 q))/\g+1<=wr.heap.size)
    case atStart=>exact⟨out.set i m,[i],aUz.o,E6.o.symm,HM4.o,by omega,bM.o,HG4.o,HQ4.o,hs4⟩
    case round=>
     clear bM HG4 HQ4 aUz HM4 hs4 zV AS HG HB YW;obtain⟨out2,q2,DF,aSW,xA,hgn,hb,dC,hq,hs⟩:=hrel;obtain⟨AS,aP1,HB,HG,HMM⟩:=kN DF aSW hb dC xA;obtain⟨qb,qo,qc,rfl,hqg,a5h,hqc,hqm,hqh,hqx⟩:=hq.ex;have hql:(ints (d9 q2)).length=q2.length:=by simp[ints,d9]
     rw[hql] at hqc hq ⊢;have HQ:=lH hq;clear DF hb dC hq aSW xA hql;cases q2 with
     | nil=>
      clear hqx hqh;simp only[zW_] at *;(go_wp2_with fail);go_roundw
      case rel=>exact⟨i+1,out2,m+1,by omega,by go_num,by go_num,by rw[<-HF.o,aEJ aU (by have:=HZ.o;omega),<-E6.o,<-aP1.o,aEL],⟨AS.o.len,AS.o.lt,fun x hx=>by have:=AS.o.bd x hx;omega⟩,by omega,by omega,HB.o,HG.o⟩
      case measure=>simp[intOf];omega
     | cons u q=>
      have hul:=AS.o.lt u (List.mem_cons_self ..);have hq0:=hqx 0 (.int .i64 u) rfl;rw[Nat.add_zero] at hq0;have hqt:=HQ.o;rw[show ints (d9 (u::q))=.int .i64 u::ints (d9 q) from rfl] at hqt;have hqt:=hqt.tail;rw[GS,Nat.add_sub_cancel] at hqt;have a5i:(0:Int)<((q.length+1:Nat):Int):=by omega
      have pQ:1<=q.length+1:=by omega
      have hqd:decide (0<q.length+1)=true:=by simp
      have aJy:q.length+1-1=q.length:=by omega
      have a5k:1<=qc:=by rw[GS] at hqc;omega
      have a5j:q.length+1<=qc:=by rw[GS] at hqc;exact hqc
      generalize hqa:(if qc=1 then some (⟨qb,qo,none⟩:Addr) else some ⟨qb,qo+1,none⟩)=qa at hqt;have HQT:=lH hqt;have hln:(u::q).length=q.length+1:=rfl;rw[hln] at hqc ⊢;have HLQ:=lH hln;clear hqt hqx hqh hln;generalize hql:q.length+1=ql at *;have l8:=lH hql;clear hql;(go_wp2_with fail);have hwo:=HB.o.size;obtain⟨S0,hS0⟩:∃S0,S0=lJ u m es (out2,q):=⟨_,rfl⟩;have LY:=lH hS0;obtain⟨C0,hC0⟩:∃C0,C0=q.length+B8 out2:=⟨_,rfl⟩;have HC0:=lH hC0;have aUy:Hid (Ps n m out2 q):=lH ⟨AS.o.len,fun v hv=>AS.o.lt v (List.mem_cons_of_mem _ hv),AS.o.bd⟩;have aU6:Hid (0<gk->rH m es (gk-1) S0.1 S0.2=R0):=lH (fun h=>by rw[<-aP1.o,aI6 h,<-LY.o]);have aHE:Hid (1+C0<=gk):=lH (by have:=HMM.o;rw[GS] at this;omega);clear aP1 HMM hS0 hC0 AS
      go_loopw [10,43] (fun v10 v43 wr=>∃(k:Nat)(out:List Int)(q:List Nat),k<=es.length/\v43=.int .i64 k/\Ps n m out q/\lJ u m (es.drop k) (out,q)=S0/\q.length+B8 out=C0/\Below w.heap.size w wr/\aG wr g 3 (ints out).toArray/\Qu wr (g+1) v10 (ints (d9 q))/\g+1<=wr.heap.size) (fun _ v43 _=>es.length-(intOf v43).toNat)
      case atStart=>exact⟨0,out2,q,by omega,rfl,aUy.o,LY.o.symm,HC0.o.symm,HB.o,HG.o,by have h:=HQT.o;rw[<-hqa] at h;first | exact h | (rw[hqa] at h;exact h),hs⟩
      case round=>
       clear aUy HB HG HQT HQ;obtain⟨k,out3,q3,hk,rfl,DF,hsc,NC,hb,dC,M8,hs3⟩:=hrel;obtain⟨AS,HSC,HCC,HB,HG⟩:=kN DF hsc NC hb dC;have HQ:=lH M8;have aSn:=lH DF.len;clear DF hsc NC hb dC M8;by_cases aJI:k<es.length
       ·obtain⟨⟨xa,xb⟩,hx⟩:∃x,es[k]?=some x:=⟨_,iB aJI⟩
        have hE:=(HE.o.below HB.o lR).more HB.o.size;obtain⟨eb,eo,heA,heb⟩:=hE.form (by omega);subst heA;obtain⟨e0,e1⟩:=hE.at_ hx;dsimp only at e0 e1;obtain⟨hxa,hxb⟩:=bU.o _ (bV hx);dsimp only at hxa hxb;have fY:(k:Int)<(es.length:Int):=by omega
        have hkm:((k:Int) == -1)=false:=by simp
        have gQ:=lH (R2 (u:=u) (s:=(out3,q3)) M9 (bU.o _ (bV hx)) AS.o);have AR:Hid (lJ u m (es.drop (k+1)) (fG u m (out3,q3) (xa,xb))=S0):=lH (by rw[<-HSC.o,VZ hx]);obtain⟨GQ,E_,HQA⟩:=d_ (HB.o.alloc HB.o.size (.cells #[.int .i64 xa,.int .i64 xb] 166)) (HG.o.alloc (.cells #[.int .i64 xa,.int .i64 xb] 166)) (HQ.o.up (bR.alloc lR (.cells #[.int .i64 xa,.int .i64 xb] 166)));have aGg:=aG.new wr 166 #[.int .i64 xa,.int .i64 xb];obtain⟨b0,b1⟩:=aGg.a2;have a56:g<wr.heap.size:=by omega
        clear hE hx aGg;unfold fG at gQ AR;by_cases hh:xa=u\/xb=u
        ·by_cases ha:xa=u
         ·subst ha
          have hna:((xa:Int) != (xa:Int))=false:=by simp
          have ho:xa+xb-xa=xb:=by omega
          dsimp only at gQ AR;rw[ho] at gQ AR;have CM:(wr.alloc (.cells #[.int .i64 xa,.int .i64 xb] 166)).cell? ⟨g,xb,none⟩=some (.int .i64 (out3.getD xb 0)):=t7 E_.o (by rw[aSn.out];omega);have hoI:(xb:Int)<(n:Int):=by omega
          have hfz:=E_.o.frozen xb;by_cases hz:out3.getD xb 0<0
          ·have HZ:=lH hz
           rw[if_pos ⟨hh,hz⟩] at gQ AR;generalize out3.getD xb 0=z at CM hz;have M_:(ints (d9 q3)).length<=1000000:=by
            have h1:=HCC.o;have h2:=aHE.o;simp only[ints,d9,jO];omega
           have j_:=lH ((HB.o.setCell (p:=⟨g,xb,none⟩) (by simp;omega) (.int .i64 m)).alloc (by simp;omega) (.cells #[.int .i64 xa,.int .i64 xb] 166));have HG7:=lH ((I4 (i:=xb) HG.o m).alloc (.cells #[.int .i64 xa,.int .i64 xb] 166));have HQ7:=lH ((HQ.o.away (q:=⟨g,xb,none⟩) (by simp) (.int .i64 m)).up (bR.alloc lR (.cells #[.int .i64 xa,.int .i64 xb] 166)));generalize K5:(wr.setCell ⟨g,xb,none⟩ (.int .i64 m)).alloc (.cells #[.int .i64 xa,.int .i64 xb] 166)=w7 at j_ HG7 HQ7;have hs7:wr.heap.size+1=w7.heap.size:=by rw[<-K5];simp
           have dR:Hid (Below w.heap.size w (((wr.setCell ⟨g,xb,none⟩ (.int .i64 m)).alloc (.cells #[.int .i64 xa,.int .i64 xb] 166)).alloc (.cells #[.int .i64 ((xa:Int)+xb-xa)] 3))):=lH (by rw[K5];exact j_.o.alloc j_.o.size (.cells #[.int .i64 ((xa:Int)+xb-xa)] 3));have HG8:Hid (aG (((wr.setCell ⟨g,xb,none⟩ (.int .i64 m)).alloc (.cells #[.int .i64 xa,.int .i64 xb] 166)).alloc (.cells #[.int .i64 ((xa:Int)+xb-xa)] 3)) g 3 (ints (out3.set xb m)).toArray):=lH (by rw[K5];exact HG7.o.alloc (.cells #[.int .i64 ((xa:Int)+xb-xa)] 3));have HQ8:Hid (Qu (((wr.setCell ⟨g,xb,none⟩ (.int .i64 m)).alloc (.cells #[.int .i64 xa,.int .i64 xb] 166)).alloc (.cells #[.int .i64 ((xa:Int)+xb-xa)] 3)) (g+1) u10 (ints (d9 q3))):=lH (by rw[K5];exact HQ7.o.up (bR.alloc lR (.cells #[.int .i64 ((xa:Int)+xb-xa)] 3)));have HC8:Hid ((((wr.setCell ⟨g,xb,none⟩ (.int .i64 m)).alloc (.cells #[.int .i64 xa,.int .i64 xb] 166)).alloc (.cells #[.int .i64 ((xa:Int)+xb-xa)] 3)).cell? ⟨wr.heap.size+1,0,none⟩=some (.int .i64 ((xa:Int)+xb-xa))):=lH (by
            rw[K5];have h:=(aG.new w7 3 #[.int .i64 ((xa:Int)+xb-xa)]).cell 0;rw[<-hs7] at h;simpa using h)
           have hs8:g+1<=(((wr.setCell ⟨g,xb,none⟩ (.int .i64 m)).alloc (.cells #[.int .i64 xa,.int .i64 xb] 166)).alloc (.cells #[.int .i64 ((xa:Int)+xb-xa)] 3)).heap.size:=by simp;omega
           clear hs7 K5 j_ HG7 HQ7
           go_wp2_with (at_builtin;refine uX _ rfl (.tmp 79) (.tmp 81) 30 rfl (g+1) 3 i0 (.int .i64 0) Tryz.underlying30 L4.o E9.o QF.o LB.o rfl u10 _ rfl HQ8.o ⟨wr.heap.size+1,0,none⟩ 1 _ rfl HC8.o rfl rfl M_ hs8 ?_;intro v' w9 hq9 gA)
           go_roundw
           case rel=>
            have hq:ints (d9 q3)++[Value.int .i64 ((xa:Int)+xb-xa)]=ints (d9 (q3++[xb])):=by
             first | exact yC _ _ | (rw[<-yC];congr 1<;>first | rfl | (congr 2;omega))
            rw[hq] at hq9;have h1:=gQ.o;exact⟨k+1,_,_,by omega,by go_num,h1.1,AR.o,h1.2.1.trans HCC.o,dR.o.trans (gA.mono (by omega)),HG8.o.below gA (by omega),hq9,cO hs8 gA.size⟩
           case measure=>simp[intOf];omega
          ·rw[if_neg (fun h=>hz h.2)] at gQ AR
           have nW:decide (out3.getD xb 0<0)=false:=decide_eq_false hz;generalize out3.getD xb 0=z at CM hz nW;(go_wp2_with fail);go_roundw
           case rel=>exact⟨k+1,out3,q3,by omega,by go_num,AS.o,AR.o,HCC.o,GQ.o,E_.o,HQA.o,by simp;omega⟩
           case measure=>simp[intOf];omega
         ·have hb:xb=u:=hh.resolve_left ha
          subst hb;have hna:((xa:Int) != (xb:Int))=true:=by simp;omega
          have a5v:((xb:Int) != (xb:Int))=false:=by simp
          have ho:xa+xb-xb=xa:=by omega
          dsimp only at gQ AR;rw[ho] at gQ AR;have CM:(wr.alloc (.cells #[.int .i64 xa,.int .i64 xb] 166)).cell? ⟨g,xa,none⟩=some (.int .i64 (out3.getD xa 0)):=t7 E_.o (by rw[aSn.out];omega);have hoI:(xa:Int)<(n:Int):=by omega
          have hfz:=E_.o.frozen xa;by_cases hz:out3.getD xa 0<0
          ·have HZ:=lH hz
           rw[if_pos ⟨hh,hz⟩] at gQ AR;generalize out3.getD xa 0=z at CM hz;have M_:(ints (d9 q3)).length<=1000000:=by
            have h1:=HCC.o;have h2:=aHE.o;simp only[ints,d9,jO];omega
           have j_:=lH ((HB.o.setCell (p:=⟨g,xa,none⟩) (by simp;omega) (.int .i64 m)).alloc (by simp;omega) (.cells #[.int .i64 xa,.int .i64 xb] 166));have HG7:=lH ((I4 (i:=xa) HG.o m).alloc (.cells #[.int .i64 xa,.int .i64 xb] 166));have HQ7:=lH ((HQ.o.away (q:=⟨g,xa,none⟩) (by simp) (.int .i64 m)).up (bR.alloc lR (.cells #[.int .i64 xa,.int .i64 xb] 166)));generalize K5:(wr.setCell ⟨g,xa,none⟩ (.int .i64 m)).alloc (.cells #[.int .i64 xa,.int .i64 xb] 166)=w7 at j_ HG7 HQ7;have hs7:wr.heap.size+1=w7.heap.size:=by rw[<-K5];simp
           have dR:Hid (Below w.heap.size w (((wr.setCell ⟨g,xa,none⟩ (.int .i64 m)).alloc (.cells #[.int .i64 xa,.int .i64 xb] 166)).alloc (.cells #[.int .i64 (xa:Int)] 3))):=lH (by rw[K5];exact j_.o.alloc j_.o.size (.cells #[.int .i64 (xa:Int)] 3));have HG8:Hid (aG (((wr.setCell ⟨g,xa,none⟩ (.int .i64 m)).alloc (.cells #[.int .i64 xa,.int .i64 xb] 166)).alloc (.cells #[.int .i64 (xa:Int)] 3)) g 3 (ints (out3.set xa m)).toArray):=lH (by rw[K5];exact HG7.o.alloc (.cells #[.int .i64 (xa:Int)] 3));have HQ8:Hid (Qu (((wr.setCell ⟨g,xa,none⟩ (.int .i64 m)).alloc (.cells #[.int .i64 xa,.int .i64 xb] 166)).alloc (.cells #[.int .i64 (xa:Int)] 3)) (g+1) u10 (ints (d9 q3))):=lH (by rw[K5];exact HQ7.o.up (bR.alloc lR (.cells #[.int .i64 (xa:Int)] 3)));have HC8:Hid ((((wr.setCell ⟨g,xa,none⟩ (.int .i64 m)).alloc (.cells #[.int .i64 xa,.int .i64 xb] 166)).alloc (.cells #[.int .i64 (xa:Int)] 3)).cell? ⟨wr.heap.size+1,0,none⟩=some (.int .i64 (xa:Int))):=lH (by
            rw[K5];have h:=(aG.new w7 3 #[.int .i64 (xa:Int)]).cell 0;rw[<-hs7] at h;simpa using h)
           have hs8:g+1<=(((wr.setCell ⟨g,xa,none⟩ (.int .i64 m)).alloc (.cells #[.int .i64 xa,.int .i64 xb] 166)).alloc (.cells #[.int .i64 (xa:Int)] 3)).heap.size:=by simp;omega
           clear hs7 K5 j_ HG7 HQ7
           go_wp2_with (at_builtin;refine uX _ rfl (.tmp 79) (.tmp 81) 30 rfl (g+1) 3 i0 (.int .i64 0) Tryz.underlying30 L4.o E9.o QF.o LB.o rfl u10 _ rfl HQ8.o ⟨wr.heap.size+1,0,none⟩ 1 _ rfl HC8.o rfl rfl M_ hs8 ?_;intro v' w9 hq9 gA)
           go_roundw
           case rel=>
            have hq:ints (d9 q3)++[Value.int .i64 (xa:Int)]=ints (d9 (q3++[xa])):=by
             first | exact yC _ _ | (rw[<-yC];congr 1<;>first | rfl | (congr 2;omega))
            rw[hq] at hq9;have h1:=gQ.o;exact⟨k+1,_,_,by omega,by go_num,h1.1,AR.o,h1.2.1.trans HCC.o,dR.o.trans (gA.mono (by omega)),HG8.o.below gA (by omega),hq9,cO hs8 gA.size⟩
           case measure=>simp[intOf];omega
          ·rw[if_neg (fun h=>hz h.2)] at gQ AR
           have nW:decide (out3.getD xa 0<0)=false:=decide_eq_false hz;generalize out3.getD xa 0=z at CM hz nW;(go_wp2_with fail);go_roundw
           case rel=>exact⟨k+1,out3,q3,by omega,by go_num,AS.o,AR.o,HCC.o,GQ.o,E_.o,HQA.o,by simp;omega⟩
           case measure=>simp[intOf];omega
        ·have hna : ((xa : Int) != (u : Int)) = true := by
          have : xa ≠ u := fun h => hh (.inl h)
          simp;omega
         have XJ : ((xb : Int) != (u : Int)) = true := by
          have : xb ≠ u := fun h => hh (.inr h)
          simp;omega
         rw[if_neg (fun h=>hh h.1)] at gQ AR;(go_wp2_with fail);go_roundw
         case rel=>exact⟨k+1,out3,q3,by omega,by go_num,AS.o,AR.o,HCC.o,GQ.o,E_.o,HQA.o,by simp;omega⟩
         case measure=>simp[intOf];omega
       ·have XM:k=es.length:=by omega
        subst XM;(go_wp2_with fail)
        go_roundg (gk-1)
        case rel=>
         have hS:(out3,q3)=S0:=by rw[<-HSC.o,List.drop_length];rfl
         exact⟨out3,q3,AS.o,by rw[<-aU6.o (by have:=aHE.o;omega),<-hS],by have:=aHE.o;have:=HCC.o;omega,by omega,HB.o,HG.o,HQ.o,hs3⟩
        case measure=>have:=aHE.o;omega
  ·have kT:i=n:=by omega
   subst kT;(go_wp2_with fail);go_ret;exact HP.o _ _ ⟨HB.o,g,rfl,hwg,by
    have h:=HG.o;have e:out=gR i es:=by unfold gR;rw[<-HF.o,Nat.sub_self];rfl
    rw[e] at h;exact h⟩
theorem UA.bm{l:List (Nat×Nat)}(h:UA w w.heap.size A n l)(g:Below w.heap.size w w'):UA w' w'.heap.size A n l:=(h.below g lR).more g.size
end
section
open Go.ChangeShapes Go.WideShapes Go.ChangeAt Go.RowKit
attribute [local go_sem ↓] aE
attribute [local go_sem] aJ aI aM aR bY.cells
theorem aCs(A:OA)(c n:Nat)(es:List (Nat×Nat))(w:Wo)(hE:UA w w.heap.size A es.length es)(ok:∀x∈es,x.1<n/\x.2<n)(hn:n<=24)(he:es.length<=64):Calls Tryz.prog 132 #[.int .i64 n,.slice A es.length c] w fun e w'=>e=.returned (.int .i64 0)/\Below w.heap.size w w':=by
 obtain⟨HE,bU,dA⟩:=d_ hE ok (Below.refl w.heap.size w);clear hE ok;go_enter Tryz.func132,Tryz.ntmps132
 go_wp2_with fail
 go_loopw [20] (fun v wr=>∃k:Nat,k<=es.length/\v=.int .i64 k/\Below w.heap.size w wr) (fun v _=>es.length-(intOf v).toNat)
 case atStart=>exact⟨0,by omega,rfl,dA.o⟩
 case round=>
  clear dA;obtain⟨k,hk,rfl,hb⟩:=hrel;have HB:=lH hb;clear hb;by_cases aU:k<es.length
  ·obtain⟨⟨xa,xb⟩,hx⟩:∃x,es[k]?=some x:=⟨_,iB aU⟩
   have hE:=(HE.o.below HB.o lR).more HB.o.size;obtain⟨eb,eo,heA,heb⟩:=hE.form (by omega);subst heA;obtain⟨e0,e1⟩:=hE.at_ hx;dsimp only at e0 e1;obtain⟨hxa,hxb⟩:=bU.o _ (bV hx);dsimp only at hxa hxb;have fY:(k:Int)<(es.length:Int):=by omega
   have hI1:(xa:Int)<(n:Int):=by omega
   have hI2:(xb:Int)<(n:Int):=by omega
   have GQ:=lH (HB.o.alloc HB.o.size (.cells #[.int .i64 xa,.int .i64 xb] 166));clear hE hx;(go_wp2_with fail);go_roundw
   case rel=>exact⟨k+1,by omega,by go_num,GQ.o⟩
   case measure=>simp[intOf];omega
  ·have XM:k=es.length:=by omega
   subst XM;(go_wp2_with fail);go_ret;exact⟨rfl,HB.o⟩
def aMZ(n:Nat)(es:List (Nat×Nat))(w:Wo)(e:Ending)(w':Wo):Prop:=
 Below w.heap.size w w'/\∃g:Nat,e=.returned (.tuple #[.slice (some ⟨g,0,none⟩) n n,.int .i64 0])/\w.heap.size<=g/\aG w' g 3 (ints (gR n es)).toArray
theorem aGV(n:Nat)(es:List (Nat×Nat))(w:Wo)(e:Ending)(w':Wo)(h:Below w.heap.size w w'/\∃g:Nat,e=.returned (.tuple #[.slice (some ⟨g,0,none⟩) n n,.int .i64 0])/\w.heap.size<=g/\aG w' g 3 (ints (gR n es)).toArray):aMZ n es w e w':=h
theorem TW(A:OA)(c n:Nat)(es:List (Nat×Nat))(w:Wo)(hE:UA w w.heap.size A es.length es)(ok:∀x∈es,x.1<n/\x.2<n)(hn:n<=24)(he:es.length<=64):Calls Tryz.prog 101 #[.int .i64 n,.slice A es.length c] w (aMZ n es w):=by
 obtain⟨HE,bU,HP⟩:=d_ hE ok (aGV n es w);clear hE ok;go_enter Tryz.func101,Tryz.ntmps101
 go_wp2_with fail
 refine(aCs A c n es w HE.o bU.o hn he).mono ?_;rintro e w1 ⟨rfl,hb⟩;have HB:=lH hb;clear hb
 go_wp2_with fail
 refine(aBP A c n es w1 (HE.o.bm HB.o) bU.o (by omega) (by omega)).mono ?_;rintro e w2 ⟨bH,g,rfl,hg,dC⟩;have cH:=bW HB bH;have HG:=lH hg;have mE:=lH dC;clear bH hg dC
 go_wp2_with fail
 go_ret2;exact HP.o _ _ ⟨cH.o,g,rfl,cO HB.o.size HG.o,mE.o⟩
def BH(nodes:List ByteArray)(op:Bool)(s:Sw):List (Nat×Nat):=if s.opn=op then[(dE nodes s.a,dE nodes s.b)] else[]
def swE(x:bO)(op:Bool):List (Nat×Nat):=x.sws.flatMap (BH x.nodes op)
theorem aM6{α β:Type}(f:α->List β){l:List α}{x:α}(h:l[k]?=some x):(l.take (k+1)).flatMap f=(l.take k).flatMap f++f x:=by
 rw[List.take_add_one,h,List.flatMap_append];simp
theorem aFl{α β:Type}(f:α->List β)(m:Nat)(h:∀a,(f a).length<=m):∀l:List α,(l.flatMap f).length<=m*l.length
 | []=>by simp
 | a::l=>by
  have h1:=aFl f m h l;have h2:=h a;rw[List.flatMap_cons,jW,GS,Nat.mul_succ];omega
theorem RE(nodes:List ByteArray)(op:Bool)(s:Sw):(BH nodes op s).length<=1:=by unfold BH;split<;>simp
theorem aFt:(Tryz.prog.info? 166).map (fun i=>(i.zero,i.size,i.bytes))=some (some (.agg #[.int .i64 0,.int .i64 0]),2,16):=by kernel_rfl
structure EgS (w0 W:Wo) (h:bY) (v6 v7:Value) (es:List (Nat×Nat)) (ws:List Value):Prop where
 low:Below w0.heap.size w0 W
 q1:aG W w0.heap.size 29 h.cells
 o6:W.ownsRow (w0.heap.size+1) 166 2 v6 es.length (es.flatMap QZ)
 o7:W.ownsRow (w0.heap.size+1) 3 1 v7 ws.length ws
 ap:v7.ownBlock=none\/v7.ownBlock≠v6.ownBlock
 sz:w0.heap.size+1<=W.heap.size
theorem WB{base e size:Nat}(h:w.ownsRow base e size v n xs)(hb:Below w.heap.size w w'):w'.ownsRow base e size v n xs:=by
 refine⟨h.1,?_⟩;rcases h.2 with h1 | ⟨g,cap,cur,h1,h2,h3,h4⟩
 ·exact .inl h1
 ·refine .inr ⟨g,cap,cur,h1,h2,?_,h4⟩
  have hg:g<w.heap.size:=by
   rcases Nat.lt_or_ge g w.heap.size with aU | QU
   ·exact aU
   ·rw[Array.getElem?_eq_none QU] at h3;cases h3
  exact(hb.block g hg).trans h3
theorem EgS.up{w0 W W':Wo}{h:bY}{v6 v7:Value}{es:List (Nat×Nat)}{ws:List Value}(H:EgS w0 W h v6 v7 es ws)(hb:Below W.heap.size W W'):EgS w0 W' h v6 v7 es ws:=
 ⟨H.low.tm hb,H.q1.bl hb,WB H.o6 hb,WB H.o7 hb,H.ap,cO H.sz hb.size⟩
theorem x_{e size:Nat}(h:w.ownsRow B e size v n xs)(hg:v.ownBlock=some g):B<=g/\g<w.heap.size:=h.lt g hg
theorem EgS.app6{w0 W W' W1:Wo}{h:bY}{v6 v7:Value}{es:List (Nat×Nat)}{ws:List Value}(H:EgS w0 W h v6 v7 es ws)(hb:Below W.heap.size W W'){p:Nat×Nat}{g cap:Nat}(ho:W1.ownsRow (w0.heap.size+1) 166 2 (.slice (some ⟨g,0,none⟩) (es.length+1) cap) (es.length+1) (es.flatMap QZ++QZ p))(hg:W'.grownBy W1 v6.ownBlock)(xB:v6.ownBlock=some g\/g=W'.heap.size):EgS w0 W1 h (.slice (some ⟨g,0,none⟩) (es.length+1) cap) v7 (es++[p]) ws:=by
 have H':=H.up hb;have bX:v7.ownBlock=none\/v7.ownBlock≠v6.ownBlock:=H'.ap;have CJ:Below w0.heap.size w0 W1:=by
  refine⟨hg.os.trans H'.low.os,hg.tape.trans H'.low.tape,hg.output.trans H'.low.output,cO H'.low.size hg.size,fun i hi=>?_⟩;have bX:some i≠v6.ownBlock:=fun e=>by have:=(x_ H'.o6 e.symm).1;omega
  exact(hg.block i (by have:=H'.sz;omega) bX).trans (H'.low.block i hi)
 refine⟨CJ,H'.q1.grown hg (fun e=>?_),?_,H'.o7.kept hg bX,?_,cO H'.sz hg.size⟩
 ·have:=(x_ H'.o6 e.symm).1;omega
 ·rw[jW,List.flatMap_append]
  simpa[QZ] using ho
 ·rcases bX with h1 | h1
  ·exact .inl h1
  ·right
   intro e;rcases xB with h2 | h2
   ·rw[h2] at h1;exact h1 e
   ·have h3:v7.ownBlock=some g:=e
    have:=(x_ H'.o7 h3).2;omega
theorem EgS.app7{w0 W W' W1:Wo}{h:bY}{v6 v7:Value}{es:List (Nat×Nat)}{ws:List Value}(H:EgS w0 W h v6 v7 es ws)(hb:Below W.heap.size W W'){u:Value}{g cap:Nat}(ho:W1.ownsRow (w0.heap.size+1) 3 1 (.slice (some ⟨g,0,none⟩) (ws.length+1) cap) (ws.length+1) (ws++[u]))(hg:W'.grownBy W1 v7.ownBlock)(xB:v7.ownBlock=some g\/g=W'.heap.size):EgS w0 W1 h v6 (.slice (some ⟨g,0,none⟩) (ws.length+1) cap) es (ws++[u]):=by
 have H':=H.up hb;have hap:=H'.ap;have bX:v6.ownBlock=none\/v6.ownBlock≠v7.ownBlock:=by
  rcases hap with h1 | h1
  ·rw[h1]
   cases h6:v6.ownBlock with
   | none=>exact .inl rfl
   | some k=>exact .inr (by simp)
  ·exact .inr (Ne.symm h1)
 have CJ:Below w0.heap.size w0 W1:=by
  refine⟨hg.os.trans H'.low.os,hg.tape.trans H'.low.tape,hg.output.trans H'.low.output,cO H'.low.size hg.size,fun i hi=>?_⟩;have bX:some i≠v7.ownBlock:=fun e=>by have:=(x_ H'.o7 e.symm).1;omega
  exact(hg.block i (by have:=H'.sz;omega) bX).trans (H'.low.block i hi)
 refine⟨CJ,H'.q1.grown hg (fun e=>?_),H'.o6.kept hg bX,by rw[jW];exact ho,?_,cO H'.sz hg.size⟩
 ·have:=(x_ H'.o7 e.symm).1;omega
 ·right
  intro e;rcases xB with h2 | h2
  ·rcases hap with h1 | h1
   ·rw[h1] at h2;cases h2
   ·rw[h2] at h1;exact h1 e
  ·have h3:v6.ownBlock=some g:=e.symm
   have:=(x_ H'.o6 h3).2;omega
theorem EF{nodes:List ByteArray}{s:ByteArray}(hs:s∈nodes):gW (fun x=>pH s x) nodes 0=((dE nodes s:Nat):Int):=(tB hs).1
theorem ZY(w:Wo)(p:Nat×Nat)(t:TypeId):∀(j:Nat)(u:Value),(QZ p)[j]?=some u->((w.alloc (.cells #[.int .i64 p.1,.int .i64 p.2] t)).drew).cell? ((⟨w.heap.size,0,none⟩:Addr).add j)=some u:=
 World.news_of_block (w:=(w.alloc (.cells #[.int .i64 p.1,.int .i64 p.2] t)).drew) (B:=w.heap.size) (cs:=#[.int .i64 p.1,.int .i64 p.2]) (t:=t) (fr:=(0,0)) (aG.new w t _)
theorem aEE(p:Nat×Nat):∀u∈QZ p,u.oneCell'=true:=by
 intro u hu;unfold QZ at hu;simp at hu;rcases hu with rfl | rfl<;>rfl
theorem jS{b o:Nat}{ob:Obj}(h:w.cell? ⟨b,o,none⟩=some v)(hb:b<w.heap.size):(w.alloc ob).cell? ⟨b,o,none⟩=some v:=by
 rw[((Below.refl w.heap.size w).alloc lR ob).cell (p:=⟨b,o,none⟩) hb];exact h
def aVD(x:bO)(op:Bool)(w:Wo)(e:Ending)(w':Wo):Prop:=
 Below w.heap.size w w'/\∃(v6 v7:Value),e=.returned (.tuple #[v6,v7])/\w'.ownsRow (w.heap.size+1) 166 2 v6 (swE x op).length ((swE x op).flatMap QZ)
theorem aKc(x:bO)(op:Bool)(w:Wo)(e:Ending)(w':Wo)(h:Below w.heap.size w w'/\∃(v6 v7:Value),e=.returned (.tuple #[v6,v7])/\w'.ownsRow (w.heap.size+1) 166 2 v6 (swE x op).length ((swE x op).flatMap QZ)):aVD x op w e w':=h
theorem aCx(h:bY)(x:bO)(ok:bJ x)(op:Bool)(w:Wo)(hR:cQ w w.heap.size h x):Calls Tryz.prog 131 #[.agg h.cells,.bool op] w (aVD x op w):=by
 obtain⟨A0,n0,c0,A1,n1,c1,A2,n2,c2,A3,n3,c3,A4,n4,c4,A5,n5,c5⟩:=h;dsimp only[bY.cells] at *;obtain⟨bU,HR,HP⟩:=d_ ok hR (aKc x op w);obtain⟨i0,kA,LO,IA,hi3⟩:=info_parts aFt;obtain⟨L4,E9,QF,LB⟩:=iK kA LO IA hi3;obtain⟨j0,GE,XP,hj2,hj3⟩:=info_parts XB;obtain⟨HJ0,HJ1,HJ2,HJ3⟩:=iK GE XP hj2 hj3;have fC:Hid (x.sws.length=n1):=lH hR.r1.1;have a17:n1<=32:=by have:=ok.l1;have:=fC.o;omega
 have aFW:n0<=9223372036854775807:=hR.m0;have LY:Hid (EgS w (w.alloc (.cells #[.slice A0 n0 c0,.slice A1 n1 c1,.slice A2 n2 c2,.slice A3 n3 c3,.slice A4 n4 c4,.slice A5 n5 c5] 29)) ⟨A0,n0,c0,A1,n1,c1,A2,n2,c2,A3,n3,c3,A4,n4,c4,A5,n5,c5⟩ (.slice none 0 0) (.slice none 0 0) [] []):=lH
  ⟨bA,aG.new w _ _,World.ownsRow_nil _ _ _ _,World.ownsRow_nil _ _ _ _,.inl rfl,by simp⟩
 clear kA LO IA hi3 GE XP hj2 hj3 ok hR;obtain⟨y0,y1,y2,y3,y4,y5,nf,nlt⟩:=aW (h:=⟨A0,n0,c0,A1,n1,c1,A2,n2,c2,A3,n3,c3,A4,n4,c4,A5,n5,c5⟩) LY.o.q1;go_enter Tryz.func131,Tryz.ntmps131
 go_wp2_with fail
 generalize w.alloc (.cells #[.slice A0 n0 c0,.slice A1 n1 c1,.slice A2 n2 c2,.slice A3 n3 c3,.slice A4 n4 c4,.slice A5 n5 c5] 29)=w1 at *;clear y0 y1 y2 y3 y4 y5 nf nlt
 go_loopw [6,7,13] (fun v6 v7 i wr=>∃(k:Nat)(ws:List Value),k<=n1/\i=.int .i64 k/\ws.length<=k/\EgS w wr ⟨A0,n0,c0,A1,n1,c1,A2,n2,c2,A3,n3,c3,A4,n4,c4,A5,n5,c5⟩ v6 v7 ((x.sws.take k).flatMap (BH x.nodes op)) ws) (fun _ _ i _=>n1-(intOf i).toNat)
 case atStart=>exact⟨0,[],by omega,rfl,by simp,LY.o⟩
 case round=>
  clear LY;obtain⟨k,ws,hk,rfl,hwl,hs⟩:=hrel;have HS:=lH hs;have HWL:=lH hwl;obtain⟨y0,y1,y2,y3,y4,y5,nf,nlt⟩:=aW hs.q1;clear hs hwl;by_cases aU:k<n1
  ·obtain⟨z,hz⟩:∃z,x.sws[k]?=some z:=eA (by have:=fC.o;omega)
   have hrw:=HR.o.up HS.o.low;obtain⟨bz,oz,hA,PE⟩:=hrw.r1.form (by dsimp only;omega);dsimp only at hA;subst hA;obtain⟨e0,e1,e2,e3,e4⟩:=hrw.r1.at_ hz;obtain⟨HRN,HZS,HZ⟩:=d_ hrw.r0 (bU.o.sw z (bV hz)) (aM6 (BH x.nodes op) hz);have P8:Hid (((x.sws.take k).flatMap (BH x.nodes op)).length<=1000):=lH (by
    have h1:=aFl (BH x.nodes op) 1 (RE x.nodes op) (x.sws.take k);have:=fC.o;rw[kR] at h1;omega)
   have BC:=lH ((Below.refl wr.heap.size wr).alloc lR (.cells #[.string z.name,.string z.a,.string z.b,.bool z.breaker,.bool z.opn] 148));have nO:=lH (HS.o.up BC.o);have eU:Hid (aG (wr.alloc (.cells #[.string z.name,.string z.a,.string z.b,.bool z.breaker,.bool z.opn] 148)) wr.heap.size 148 #[.string z.name,.string z.a,.string z.b,.bool z.breaker,.bool z.opn]):=lH (aG.new wr _ _);have fY:(k:Int)<(n1:Int):=by omega
   clear hz hrw;by_cases hop:z.opn=op
   ·have HE1:Hid (BH x.nodes op z=[(dE x.nodes z.a,dE x.nodes z.b)]):=lH (by unfold BH;rw[if_pos hop])
    have aSl:(z.opn == op)=true:=by simp[hop]
    have aC3:Hid (aY (wr.alloc (.cells #[.string z.name,.string z.a,.string z.b,.bool z.breaker,.bool z.opn] 148)) (wr.alloc (.cells #[.string z.name,.string z.a,.string z.b,.bool z.breaker,.bool z.opn] 148)).heap.size A0 n0 x.nodes):=lH (HRN.o.bm BC.o);rw[hop] at nO eU aC3 BC e4;clear hop aSl;(go_wp2_with fail);have hzw:wr.heap.size<(wr.alloc (.cells #[.string z.name,.string z.a,.string z.b,.bool z.breaker,.bool op] 148)).heap.size:=by simp
    have nG:u6.ownBlock≠some w.heap.size:=fun e=>by have:=(HS.o.o6.lt _ e).1;omega
    have lA:u6.ownBlock≠some wr.heap.size:=fun e=>by have:=(HS.o.o6.lt _ e).2;omega
    clear BC HS HRN y0 y1 y2 y3 y4 y5 nf nlt e0 e1 e2 e3 e4;generalize hWW:wr.alloc (.cells #[.string z.name,.string z.a,.string z.b,.bool z.breaker,.bool op] 148)=W at *;generalize hzb:wr.heap.size=zb at *;have q0:W.cell? ⟨w.heap.size,0,none⟩=some (.slice A0 n0 c0):=nO.o.q1.cell 0;have b1:W.cell? ⟨zb,1,none⟩=some (.string z.a):=eU.o.cell 1;have b2:W.cell? ⟨zb,2,none⟩=some (.string z.b):=eU.o.cell 2;have hsa:z.a∈x.nodes:=HZS.o.1;have GA:z.b∈x.nodes:=HZS.o.2.1;generalize hE0:(x.sws.take k).flatMap (BH x.nodes op)=E0 at *;have HEE:=lH hE0;clear hE0 hWW hzb;have cS:w.heap.size+1<=W.heap.size:=nO.o.sz;generalize u6=v6 at *;refine bZ (S:=fun w'=>w'.cell? ⟨w.heap.size,0,none⟩=some (.slice A0 n0 c0)/\w'.cell? ⟨zb,1,none⟩=some (.string z.a)/\w'.cell? ⟨zb,2,none⟩=some (.string z.b)) 14 _ (by kernel_rfl) (by kernel_rfl) rfl ⟨q0,b1,b2⟩ (fun hHeld=>?_);simp only[nI,List.take_zero];refine aLe 0 (v:=?_) rfl (by kernel_rfl) (fun _ _ _ h=>h) (by rfl) ?_ hHeld ?_;rotate_left 1
    ·intro w' hSw;(try dsimp only at hSw);go_simp<;>with_reducible rfl
    (try simp only[Act.put,gL,gK,gJ]);refine aLe 1 (v:=?_) rfl (by kernel_rfl) (fun _ _ _ h=>h) (by rfl) ?_ hHeld ?_;rotate_left 1
    ·intro w' hSw;(try dsimp only at hSw);go_simp<;>with_reducible rfl
    (try simp only[Act.put,gL,gK,gJ]);refine aLe 2 (v:=?_) rfl (by kernel_rfl) (fun _ _ _ h=>h) (by rfl) ?_ hHeld ?_;rotate_left 1
    ·intro w' hSw;(try dsimp only at hSw);go_simp<;>with_reducible rfl
    (try simp only[Act.put,gL,gK,gJ]);refine aLe 3 (v:=?_) rfl (by kernel_rfl) (fun _ _ _ h=>h) (by rfl) ?_ hHeld ?_;rotate_left 1
    ·intro w' hSw;(try dsimp only at hSw);go_simp<;>with_reducible rfl
    (try simp only[Act.put,gL,gK,gJ]);refine aLe 4 (v:=?_) rfl (by kernel_rfl) (fun _ _ _ h=>h) (by rfl) ?_ hHeld ?_;rotate_left 1
    ·intro w' hSw;(try dsimp only at hSw);go_simp<;>with_reducible rfl
    (try simp only[Act.put,gL,gK,gJ]);refine aLe 6 (v:=?_) rfl (by kernel_rfl) (fun _ _ _ h=>h) (by rfl) ?_ hHeld ?_;rotate_left 1
    ·intro w' hSw;(try dsimp only at hSw);go_simp<;>with_reducible rfl
    (try simp only[Act.put,gL,gK,gJ]);refine aLe 7 (v:=?_) rfl (by kernel_rfl) (fun _ _ _ h=>h) (by rfl) ?_ hHeld ?_;rotate_left 1
    ·intro w' hSw;(try dsimp only at hSw);go_simp<;>with_reducible rfl
    (try simp only[Act.put,gL,gK,gJ]);refine aLe 8 (v:=?_) rfl (by kernel_rfl) (fun _ _ _ h=>h) (by rfl) ?_ hHeld ?_;rotate_left 1
    ·intro w' hSw;(try dsimp only at hSw);go_simp<;>with_reducible rfl
    (try simp only[Act.put,gL,gK,gJ]);refine aLe 9 (v:=?_) rfl (by kernel_rfl) (fun _ _ _ h=>h) (by rfl) ?_ hHeld ?_;rotate_left 1
    ·intro w' hSw;(try dsimp only at hSw);go_simp<;>with_reducible rfl
    (try simp only[Act.put,gL,gK,gJ]);refine aRn 5 (by kernel_rfl) rfl (fun K hK=>?_);go_simp;refine(k_ A0 n0 c0 x.nodes z.a W.drew aC3.o aFW).mono ?_;rw[EF hsa];rintro e w' ⟨rfl,rfl⟩;go_simp;refine hK.out _ _ hHeld (fun hHeld=>?_);clear hK K;(try simp only[Act.put,gL,gK,gJ]);refine aRn 10 (by kernel_rfl) rfl (fun K hK=>?_);go_simp;refine(k_ A0 n0 c0 x.nodes z.b W.drew aC3.o aFW).mono ?_;rw[EF GA];rintro e w' ⟨rfl,rfl⟩;go_simp;refine hK.out _ _ hHeld (fun hHeld=>?_);clear hK K;(try simp only[Act.put,gL,gK,gJ]);refine aLe 11 (v:=?_) rfl (by kernel_rfl) (fun _ _ _ h=>h) (by rfl) ?_ hHeld ?_;rotate_left 1
    ·intro w' hSw;(try dsimp only at hSw);go_simp<;>with_reducible rfl
    (try simp only[Act.put,gL,gK,gJ]);refine aRn 12 (by kernel_rfl) rfl (fun K hK=>?_);go_simp;refine hK.out _ _ ?_ (fun hHeld=>?_)
    ·exact⟨jS q0 (by omega),jS b1 (by omega),jS b2 (by omega)⟩
    clear hK K;(try simp only[Act.put,gL,gK,gJ]);refine aRn 13 (by kernel_rfl) rfl (fun K hK=>?_);refine step_append_lies _ (by rfl) _ _ _ (by rfl) (w.heap.size+1) 166 i0 _ 2 16 Tryz.underlying165 L4.o E9.o QF.o LB.o rfl (by omega) v6 _ _ (by rfl) ((nO.o.o6.alloc _).drew) ⟨W.heap.size,0,none⟩ 1 1 (QZ (dE x.nodes z.a,dE x.nodes z.b)) (by rfl) (by rfl) (ZY W (dE x.nodes z.a,dE x.nodes z.b) 166) (aEE _) (by omega) (by have:=P8.o;simp only[maxLen];omega) (by have:=P8.o;omega) (by simp;omega) (W.heap.size+1) (by simp) ?_;intro gg cap w1 hown1 hgrow xB aSB;refine hK.out _ _ ?_ (fun hHeld=>?_)
    ·exact⟨(hgrow.cell_far ⟨w.heap.size,0,none⟩ (by simp;omega) (Ne.symm nG)).trans (jS q0 (by omega)),(hgrow.cell_far ⟨zb,1,none⟩ (by simp;omega) (Ne.symm lA)).trans (jS b1 (by omega)),(hgrow.cell_far ⟨zb,2,none⟩ (by simp;omega) (Ne.symm lA)).trans (jS b2 (by omega))⟩
    clear hK K;(try simp only[Act.put,gL,gK,gJ]);refine wpAnyH_done (by kernel_rfl) ?_ _;refine dK (by rfl) ?_;have QA:=lH (nO.o.app6 (aK (bA)) hown1 hgrow (by simpa using xB));clear hgrow xB hown1 hHeld;have hJL:ws.length<=1000:=by have:=HWL.o;omega
    generalize hv6:(Value.slice (some (⟨gg,0,none⟩:Addr)) (E0.length+1) cap)=v6' at QA ⊢;have HV6:=lH hv6;clear hv6;have fD:w.heap.size+1<=w1.heap.size:=QA.o.sz;have DB:Hid (∀(j:Nat)(u:Value),([Value.int .i64 k]:List Value)[j]?=some u->((w1.alloc (.cells #[.int .i64 k] 3))).cell? ((⟨w1.heap.size,0,none⟩:Addr).add j)=some u):=lH (World.news_of_block (B:=w1.heap.size) (cs:=#[.int .i64 k]) (t:=3) (fr:=(0,0)) (aG.new w1 _ _));go_simp
    go_wp2_with (at_builtin;refine wpList_append_lies _ rfl (.tmp 36) (.tmp 38) 30 rfl (w.heap.size+1) 3 j0 _ 1 8 Tryz.underlying30 HJ0.o HJ1.o HJ2.o HJ3.o rfl (by omega) u7 _ _ rfl (QA.o.o7.alloc _) ⟨w1.heap.size,0,none⟩ 1 1 [.int .i64 k] rfl rfl DB.o (by intro u hu;rw[List.mem_singleton.1 hu];rfl) (by omega) (by simp only[maxLen];omega) (by omega) (by simp;omega) (w1.heap.size+1) (by simp) ?_;intro g2 cap2 w2 vH hgrow2 hat2 aCi)
    have HS6:=lH (QA.o.app7 (bA) vH hgrow2 (by simpa using hat2));clear vH hgrow2 hat2;go_roundw
    case rel=>exact⟨k+1,ws++[.int .i64 k],by omega,by go_num,by rw[jW,List.length_singleton];have:=HWL.o;omega,by rw[HZ.o,HE1.o];exact HS6.o⟩
    case measure=>simp[intOf];omega
   ·have HE1:Hid (BH x.nodes op z=[]):=lH (by unfold BH;rw[if_neg hop])
    have aSl:(z.opn == op)=false:=by simpa using hop
    generalize z.opn=zo at *;clear hop;(go_wp2_with fail);go_roundw
    case rel=>exact⟨k+1,ws,by omega,by go_num,by have:=HWL.o;omega,by rw[HZ.o,HE1.o,List.append_nil];exact nO.o⟩
    case measure=>simp[intOf];omega
  ·have XM:n1=k:=by omega
   subst XM;have Y5:Hid (x.sws.take n1=x.sws):=lH (nL (by have:=fC.o;omega));(go_wp2_with fail);go_ret2;have h:=HS.o;rw[Y5.o] at h;exact HP.o _ _ ⟨h.low,_,_,rfl,h.o6⟩
theorem ZU{es:List (Nat×Nat)}(h:w.ownsRow B 166 2 v es.length (es.flatMap QZ)):∃A c,v=.slice A es.length c/\UA w w.heap.size A es.length es:=by
 rcases h.2 with⟨h1,h2⟩ | ⟨g,cap,cur,h1,h2,h3,h4,h5,h6,h7⟩
 ·refine⟨none,0,by rw[h2];exact h1,rfl,h.1,fun h0=>by omega⟩
 ·refine⟨_,_,h1,rfl,h.1,fun h0=>⟨g,0,rfl,?_,fun j u hu=>?_⟩⟩
  ·rcases Nat.lt_or_ge g w.heap.size with aU | QU
   ·exact aU
   ·rw[Array.getElem?_eq_none QU] at h3;cases h3
  ·rw[Nat.zero_add,cell_of_row w g j cur 166 (0,0) h3]
   rw[<-h7] at hu;have oP:=(dH.1 hu).1;rw[List.getElem?_take_of_lt (by rw[kR] at oP;omega)] at hu;simpa using hu
def iX(x:bO):List Int:=gR x.nodes.length (swE x false)
theorem VI(ok:bJ x)(op:Bool):(∀p∈swE x op,p.1<x.nodes.length/\p.2<x.nodes.length)/\(swE x op).length<=32:=by
 refine⟨fun p hp=>?_,?_⟩
 ·obtain⟨s,hs,h1⟩:=List.mem_flatMap.1 hp
  unfold BH at h1;split at h1
  ·rw[List.mem_singleton.1 h1]
   exact⟨(tB (ok.sw s hs).1).2,(tB (ok.sw s hs).2.1).2⟩
  ·cases h1
 ·have h:=aFl (BH x.nodes op) 1 (RE x.nodes op) x.sws
  have:=ok.l1;unfold swE;omega
theorem lF(ok:bJ x):(iX x).length=x.nodes.length/\∀b∈iX x,0<=b/\b<x.nodes.length:=qL (VI ok false).1
def aVI(x:bO)(n0:Nat)(w:Wo)(e:Ending)(w':Wo):Prop:=
 Below w.heap.size w w'/\∃g:Nat,e=.returned (.slice (some ⟨g,0,none⟩) n0 n0)/\w.heap.size<=g/\aG w' g 3 (ints (iX x)).toArray
theorem aKn(x:bO)(n0:Nat)(w:Wo)(e:Ending)(w':Wo)(h:Below w.heap.size w w'/\∃g:Nat,e=.returned (.slice (some ⟨g,0,none⟩) n0 n0)/\w.heap.size<=g/\aG w' g 3 (ints (iX x)).toArray):aVI x n0 w e w':=h
theorem aCN(h:bY)(x:bO)(ok:bJ x)(w:Wo)(hR:cQ w w.heap.size h x):Calls Tryz.prog 100 #[.agg h.cells] w (aVI x h.n0 w):=by
 obtain⟨A0,n0,c0,A1,n1,c1,A2,n2,c2,A3,n3,c3,A4,n4,c4,A5,n5,c5⟩:=h;dsimp only[bY.cells] at *;have bU:=lH ok;have HP:=lH (aKn x n0 w);have dA:Hid (Below w.heap.size w (w.alloc (.cells #[.slice A0 n0 c0,.slice A1 n1 c1,.slice A2 n2 c2,.slice A3 n3 c3,.slice A4 n4 c4,.slice A5 n5 c5] 29))):=lH (bA);have HQ0:Hid (aG (w.alloc (.cells #[.slice A0 n0 c0,.slice A1 n1 c1,.slice A2 n2 c2,.slice A3 n3 c3,.slice A4 n4 c4,.slice A5 n5 c5] 29)) w.heap.size 29 #[.slice A0 n0 c0,.slice A1 n1 c1,.slice A2 n2 c2,.slice A3 n3 c3,.slice A4 n4 c4,.slice A5 n5 c5]):=lH (aG.new w _ _);have HR:=lH (hR.up dA.o);have HN0:Hid (x.nodes.length=n0):=lH hR.r0.1;have mY:n0<=24:=by have:=ok.l0;have:=HN0.o;omega
 clear ok hR;obtain⟨y0,y1,y2,y3,y4,y5,nf,nlt⟩:=aW (h:=⟨A0,n0,c0,A1,n1,c1,A2,n2,c2,A3,n3,c3,A4,n4,c4,A5,n5,c5⟩) HQ0.o;go_enter Tryz.func100,Tryz.ntmps100
 go_wp2_with fail
 generalize w.alloc (.cells #[.slice A0 n0 c0,.slice A1 n1 c1,.slice A2 n2 c2,.slice A3 n3 c3,.slice A4 n4 c4,.slice A5 n5 c5] 29)=w1 at *;clear y0 y1 y2 y3 y4 y5 nf nlt;refine(aCx ⟨A0,n0,c0,A1,n1,c1,A2,n2,c2,A3,n3,c3,A4,n4,c4,A5,n5,c5⟩ x bU.o false w1 HR.o).mono ?_;rintro e w2 ⟨hb,v6,v7,rfl,ho⟩;have cH:=bW dA hb;have sO:=lH (HQ0.o.bl hb);obtain⟨A,c,rfl,hE⟩:=ZU ho;have HE:=lH hE;clear hb ho hE;obtain⟨y0,y1,y2,y3,y4,y5,nf,nlt⟩:=aW (h:=⟨A0,n0,c0,A1,n1,c1,A2,n2,c2,A3,n3,c3,A4,n4,c4,A5,n5,c5⟩) sO.o;have NY:=lH (VI bU.o false).2;have HSO:Hid (∀p∈swE x false,p.1<n0/\p.2<n0):=lH (by have h:=(VI bU.o false).1;rw[HN0.o] at h;exact h);have HBE:Hid (gR n0 (swE x false)=iX x):=lH (by unfold iX;rw[HN0.o]);generalize swE x false=es at *
 go_wp2_with fail
 clear y0 y1 y2 y3 y4 y5 nf nlt;refine(TW A c n0 es w2 HE.o HSO.o mY (by have:=NY.o;omega)).mono ?_;rintro e w3 ⟨hb,g,rfl,hg,dC⟩;have dY:=bW cH hb;have HG:=lH (cO cH.o.size hg);have mE:=lH dC;clear hb hg dC
 go_wp2_with fail
 go_ret;exact HP.o _ _ ⟨dY.o,g,rfl,HG.o,by rw[<-HBE.o];exact mE.o⟩
def aD(x:bO)(s:ByteArray):Nat:=((iX x).getD (dE x.nodes s) 0).toNat
def aH(x:bO):Nat:=(IW (iX x)).toNat
def LU(x:bO):List (Nat×Nat):=x.brs.map fun b=>(aD x b.fr,aD x b.to)
def qR(x:bO):List Int:=gR (aH x) (LU x)
theorem eX(ok:bJ x):(aH x:Int)=IW (iX x)/\aH x<=x.nodes.length:=by
 obtain⟨h1,h2,h3⟩:=GV (iX x);have h4:=h3 x.nodes.length (by omega) fun b hb=>((lF ok).2 b hb).2;unfold aH;omega
theorem bG(ok:bJ x){s:ByteArray}(hs:s∈x.nodes):(iX x).getD (dE x.nodes s) 0=(aD x s:Int)/\aD x s<aH x/\dE x.nodes s<(iX x).length:=by
 have hi:=(tB hs).2;rw[<-(lF ok).1] at hi;have hm:(iX x).getD (dE x.nodes s) 0∈iX x:=by rw[dN,iB hi];exact List.getElem_mem hi
 have h1:=(lF ok).2 _ hm;have h2:=(GV (iX x)).2.1 _ hm;have h3:=(eX ok).1;refine⟨?_,?_,hi⟩<;>unfold aD<;>omega
theorem AN(ok:bJ x):(∀p∈LU x,p.1<aH x/\p.2<aH x)/\(LU x).length<=24:=by
 refine⟨fun p hp=>?_,by unfold LU;rw[jO];exact ok.l2⟩;obtain⟨b,hb,rfl⟩:=List.mem_map.1 hp;exact⟨(bG ok (ok.br b hb).1).2.1,(bG ok (ok.br b hb).2.1).2.1⟩
theorem aBl{α β:Type}(f:α->β){l:List α}{x:α}(h:l[k]?=some x):(l.take (k+1)).map f=(l.take k).map f++[f x]:=by
 rw[List.take_add_one,h,List.map_append];rfl
theorem VH{x:Int}(h:l[k]?=some x):IW (l.take (k+1))=max (IW (l.take k)) (x+1):=by
 unfold IW;rw[List.take_add_one,h,List.foldl_append];rfl
theorem G9(h:aG w g 3 (ints l).toArray){x:Int}(hx:l[i]?=some x):w.cell? ⟨g,i,none⟩=some (.int .i64 x):=by
 rw[h.cell,List.getElem?_toArray];unfold ints;rw[iY,hx];rfl
def aTx(x:bO)(n0:Nat)(w:Wo)(e:Ending)(w':Wo):Prop:=
 Below w.heap.size w w'/\∃g1 g2:Nat,e=.returned (.agg #[.slice (some ⟨g1,0,none⟩) n0 n0,.slice (some ⟨g2,0,none⟩) (aH x) (aH x)])/\w.heap.size<=g1/\w.heap.size<=g2/\aG w' g1 3 (ints (iX x)).toArray/\aG w' g2 3 (ints (qR x)).toArray
theorem aID(x:bO)(n0:Nat)(w:Wo)(e:Ending)(w':Wo)(h:Below w.heap.size w w'/\∃g1 g2:Nat,e=.returned (.agg #[.slice (some ⟨g1,0,none⟩) n0 n0,.slice (some ⟨g2,0,none⟩) (aH x) (aH x)])/\w.heap.size<=g1/\w.heap.size<=g2/\aG w' g1 3 (ints (iX x)).toArray/\aG w' g2 3 (ints (qR x)).toArray):aTx x n0 w e w':=h
theorem PI(h:bY)(x:bO)(ok:bJ x)(w:Wo)(hR:cQ w w.heap.size h x):Calls Tryz.prog 59 #[.agg h.cells] w (aTx x h.n0 w):=by
 obtain⟨A0,n0,c0,A1,n1,c1,A2,n2,c2,A3,n3,c3,A4,n4,c4,A5,n5,c5⟩:=h;dsimp only[bY.cells] at *;have bU:=lH ok;have HP:=lH (aID x n0 w);obtain⟨i0,kA,LO,IA,hi3⟩:=info_parts aFt;obtain⟨L4,E9,QF,LB⟩:=iK kA LO IA hi3;have dA:Hid (Below w.heap.size w ((w.alloc (.cells #[.slice A0 n0 c0,.slice A1 n1 c1,.slice A2 n2 c2,.slice A3 n3 c3,.slice A4 n4 c4,.slice A5 n5 c5] 29)).alloc (.cells #[.slice none 0 0,.slice none 0 0] 50))):=lH ((bA).alloc (by simp) _);have HQ0:Hid (aG ((w.alloc (.cells #[.slice A0 n0 c0,.slice A1 n1 c1,.slice A2 n2 c2,.slice A3 n3 c3,.slice A4 n4 c4,.slice A5 n5 c5] 29)).alloc (.cells #[.slice none 0 0,.slice none 0 0] 50)) w.heap.size 29 #[.slice A0 n0 c0,.slice A1 n1 c1,.slice A2 n2 c2,.slice A3 n3 c3,.slice A4 n4 c4,.slice A5 n5 c5]):=lH ((aG.new w _ _).alloc _);have HT0:Hid (aG ((w.alloc (.cells #[.slice A0 n0 c0,.slice A1 n1 c1,.slice A2 n2 c2,.slice A3 n3 c3,.slice A4 n4 c4,.slice A5 n5 c5] 29)).alloc (.cells #[.slice none 0 0,.slice none 0 0] 50)) (w.heap.size+1) 50 #[.slice none 0 0,.slice none 0 0]):=lH (aG.new_ (by simp));have HR:=lH (hR.up dA.o);have HN0:Hid (x.nodes.length=n0):=lH hR.r0.1;have iI:Hid (x.brs.length=n2):=lH hR.r2.1;have mY:n0<=24:=by have:=ok.l0;have:=HN0.o;omega
 have UY:n2<=24:=by have:=ok.l2;have:=iI.o;omega
 have aFW:n0<=9223372036854775807:=by omega
 have LY:Hid (w.heap.size+2<=((w.alloc (.cells #[.slice A0 n0 c0,.slice A1 n1 c1,.slice A2 n2 c2,.slice A3 n3 c3,.slice A4 n4 c4,.slice A5 n5 c5] 29)).alloc (.cells #[.slice none 0 0,.slice none 0 0] 50)).heap.size):=lH (by simp);clear kA LO IA hi3 ok hR;obtain⟨y0,y1,y2,y3,y4,y5,nf,nlt⟩:=aW (h:=⟨A0,n0,c0,A1,n1,c1,A2,n2,c2,A3,n3,c3,A4,n4,c4,A5,n5,c5⟩) HQ0.o;go_enter Tryz.func59,Tryz.ntmps59
 go_wp2_with fail
 generalize (w.alloc (.cells #[.slice A0 n0 c0,.slice A1 n1 c1,.slice A2 n2 c2,.slice A3 n3 c3,.slice A4 n4 c4,.slice A5 n5 c5] 29)).alloc (.cells #[.slice none 0 0,.slice none 0 0] 50)=w1 at *;clear y0 y1 y2 y3 y4 y5 nf nlt;refine(aCN ⟨A0,n0,c0,A1,n1,c1,A2,n2,c2,A3,n3,c3,A4,n4,c4,A5,n5,c5⟩ x bU.o w1 HR.o).mono ?_;rintro e w2 ⟨hb,gb,rfl,hg,dC⟩;dsimp only;have rW:w.heap.size+2<=gb:=cO LY.o hg;have cH:=lH ((dA.o.tm hb).alloc (by have:=hb.size;have:=LY.o;omega) (.cells #[.slice (some ⟨gb,0,none⟩) n0 n0,.slice none 0 0] 50));obtain⟨sO,vX,iJ⟩:=d_ ((HQ0.o.bl hb).alloc (.cells #[.slice (some ⟨gb,0,none⟩) n0 n0,.slice none 0 0] 50)) ((HT0.o.bl hb).alloc (.cells #[.slice (some ⟨gb,0,none⟩) n0 n0,.slice none 0 0] 50)) (dC.alloc (.cells #[.slice (some ⟨gb,0,none⟩) n0 n0,.slice none 0 0] 50));have f_:Hid (aG (w2.alloc (.cells #[.slice (some ⟨gb,0,none⟩) n0 n0,.slice none 0 0] 50)) w2.heap.size 50 #[.slice (some ⟨gb,0,none⟩) n0 n0,.slice none 0 0]):=lH (aG.new w2 _ _);have yJ:gb<w2.heap.size:=dC.lt;have sN:Hid (cQ (w2.alloc (.cells #[.slice (some ⟨gb,0,none⟩) n0 n0,.slice none 0 0] 50)) (w2.heap.size+1) ⟨A0,n0,c0,A1,n1,c1,A2,n2,c2,A3,n3,c3,A4,n4,c4,A5,n5,c5⟩ x):=lH (((HR.o.up hb).below (bA) lR).more (by omega));have zR:w.heap.size+2<=w2.heap.size:=by omega
 have t0':=f_.o.cell 0;clear hb hg dC HT0 HQ0 dA LY
 go_wp2_with fail
 have HTB:Hid (w2.heap.size<(w2.alloc (.cells #[.slice (some ⟨gb,0,none⟩) n0 n0,.slice none 0 0] 50)).heap.size):=lH (by simp);generalize w2.alloc (.cells #[.slice (some ⟨gb,0,none⟩) n0 n0,.slice none 0 0] 50)=w3 at *;generalize w2.heap.size=tb at *;have sH:=lH (lF bU.o).1;have aK4:Hid ((iX x).length=n0):=lH (sH.out.trans HN0.o)
 go_loop [4,16] (fun v4 v16=>∃k:Nat,k<=n0/\v16=.int .i64 k/\v4=.int .i64 (IW ((iX x).take k))) (fun _ v16=>n0-(intOf v16).toNat)
 case atStart=>exact⟨0,by omega,rfl,rfl⟩
 case round=>
  obtain⟨k,hk,rfl,rfl⟩:=hrel;by_cases aU:k<n0
  ·obtain⟨b,hb⟩:∃b,(iX x)[k]?=some b:=eA (by have:=aK4.o;omega)
   have hc:=G9 iJ.o hb;have IK:=lH (VH hb);have EN:=(lF bU.o).2 b (bV hb);have bC:=EN.1;have bH:b<=24:=by have:=EN.2;have:=HN0.o;omega
   have FO:=(GV ((iX x).take k)).1;clear hb EN;generalize IW ((iX x).take k)=tk at *;have fY:(k:Int)<(n0:Int):=by omega
   go_wp2_with fail
   go_round
   case rel=>exact⟨k+1,by omega,by go_num,by rw[IK.o];first | done | (congr 1;split<;>omega)⟩
   case measure=>simp[intOf];omega
  ·have XM:n0=k:=by omega
   subst XM;have aPf:Hid (IW ((iX x).take n0)=(aH x:Int)):=lH (by rw[nL (by have:=aK4.o;omega)];exact(eX bU.o).1.symm);have hbn:aH x<=24:=by have:=(eX bU.o).2;have:=HN0.o;omega
   rw[aPf.o];obtain⟨y0,y1,y2,y3,y4,y5,nf,nlt⟩:=aW (h:=⟨A0,n0,c0,A1,n1,c1,A2,n2,c2,A3,n3,c3,A4,n4,c4,A5,n5,c5⟩) sO.o;obtain⟨w4,F_⟩:∃w4:World,w4=w3:=⟨_,rfl⟩;have sO:Hid (aG w4 w.heap.size 29 #[.slice A0 n0 c0,.slice A1 n1 c1,.slice A2 n2 c2,.slice A3 n3 c3,.slice A4 n4 c4,.slice A5 n5 c5]):=lH (by rw[F_];exact sO.o);have cH:Hid (Below w.heap.size w w4):=lH (by rw[F_];exact cH.o);have vX:Hid (aG w4 (w.heap.size+1) 50 #[.slice none 0 0,.slice none 0 0]):=lH (by rw[F_];exact vX.o);have iJ:Hid (aG w4 gb 3 (ints (iX x)).toArray):=lH (by rw[F_];exact iJ.o);have f_:Hid (aG w4 tb 50 #[.slice (some ⟨gb,0,none⟩) n0 n0,.slice none 0 0]):=lH (by rw[F_];exact f_.o);have HRF:Hid (cQ w4 (tb+1) ⟨A0,n0,c0,A1,n1,c1,A2,n2,c2,A3,n3,c3,A4,n4,c4,A5,n5,c5⟩ x):=lH (by rw[F_];exact sN.o);have HLO:Hid (Below (tb+1) w4 w3):=lH (by rw[F_];exact bR);have dZ:Hid (tb+1<=w3.heap.size):=lH (by have:=HTB.o;omega);clear F_ aU t0';(go_wp2_with fail);clear y0 y1 y2 y3 y4 y5 nf nlt
   go_loopw [7,28] (fun v7 i wr=>∃k:Nat,k<=n2/\i=.int .i64 k/\Below (tb+1) w4 wr/\tb+1<=wr.heap.size/\wr.ownsRow (tb+1) 166 2 v7 k (((x.brs.take k).map fun b=>(aD x b.fr,aD x b.to)).flatMap QZ)) (fun _ i _=>n2-(intOf i).toNat)
   case atStart=>exact⟨0,by omega,rfl,HLO.o,dZ.o,World.ownsRow_nil _ _ _ _⟩
   case round=>
    clear HLO dZ;obtain⟨k,hk,rfl,hlo,iV,bB⟩:=hrel;have HLO:=lH hlo;have HOW:=lH bB;have HQ:=lH (sO.o.below hlo (by omega));obtain⟨y0,y1,y2,y3,y4,y5,nf,nlt⟩:=aW (h:=⟨A0,n0,c0,A1,n1,c1,A2,n2,c2,A3,n3,c3,A4,n4,c4,A5,n5,c5⟩) HQ.o;clear hlo bB;by_cases aU:k<n2
    ·obtain⟨z,hz⟩:∃z,x.brs[k]?=some z:=eA (by have:=iI.o;omega)
     have hrw:=HRF.o.below HLO.o lR;obtain⟨bz,oz,hA,PE⟩:=hrw.r2.form (by dsimp only;omega);dsimp only at hA;subst hA;obtain⟨e0,e1,e2,e3,e4,e5,e6,e7,e8⟩:=hrw.r2.at_ hz;have HRN:=lH hrw.r0;have HZS:=lH (bU.o.br z (bV hz));have HZ:=lH (aBl (fun b:Br=>(aD x b.fr,aD x b.to)) hz);have P8:Hid (k<=1000):=lH (by omega);have HEL:Hid (((x.brs.take k).map fun b:Br=>(aD x b.fr,aD x b.to)).length=k):=lH (by simp;have:=iI.o;omega);have BC:=lH ((Below.refl wr.heap.size wr).alloc lR (.cells #[.string z.name,.string z.fr,.string z.to,.int .i64 z.x,.int .i64 z.tap,.int .i64 z.shift,.int .i64 z.limit,.int .i64 z.short,.int .i64 z.hold] 54));have HO:=lH (WB HOW.o BC.o);have HQB:=lH (HQ.o.below BC.o (by omega));have HXB:=lH ((f_.o.below HLO.o (by omega)).below BC.o (by omega));have Y2:=lH ((iJ.o.below HLO.o (by omega)).below BC.o (by omega));have HLB:=lH (HLO.o.alloc iV (.cells #[.string z.name,.string z.fr,.string z.to,.int .i64 z.x,.int .i64 z.tap,.int .i64 z.shift,.int .i64 z.limit,.int .i64 z.short,.int .i64 z.hold] 54));have eU:Hid (aG (wr.alloc (.cells #[.string z.name,.string z.fr,.string z.to,.int .i64 z.x,.int .i64 z.tap,.int .i64 z.shift,.int .i64 z.limit,.int .i64 z.short,.int .i64 z.hold] 54)) wr.heap.size 54 #[.string z.name,.string z.fr,.string z.to,.int .i64 z.x,.int .i64 z.tap,.int .i64 z.shift,.int .i64 z.limit,.int .i64 z.short,.int .i64 z.hold]):=lH (aG.new wr _ _);have aC3:Hid (aY (wr.alloc (.cells #[.string z.name,.string z.fr,.string z.to,.int .i64 z.x,.int .i64 z.tap,.int .i64 z.shift,.int .i64 z.limit,.int .i64 z.short,.int .i64 z.hold] 54)) (wr.alloc (.cells #[.string z.name,.string z.fr,.string z.to,.int .i64 z.x,.int .i64 z.tap,.int .i64 z.shift,.int .i64 z.limit,.int .i64 z.short,.int .i64 z.hold] 54)).heap.size A0 n0 x.nodes):=lH ((HRN.o.below BC.o (by omega)).more (by simp;omega));have fY:(k:Int)<(n2:Int):=by omega
     clear hz hrw;(go_wp2_with fail);have hzw:wr.heap.size<(wr.alloc (.cells #[.string z.name,.string z.fr,.string z.to,.int .i64 z.x,.int .i64 z.tap,.int .i64 z.shift,.int .i64 z.limit,.int .i64 z.short,.int .i64 z.hold] 54)).heap.size:=by simp
     have nG:u7.ownBlock≠some w.heap.size:=fun e=>by have:=(HOW.o.lt _ e).1;omega
     have lA:u7.ownBlock≠some wr.heap.size:=fun e=>by have:=(HOW.o.lt _ e).2;omega
     have qT:u7.ownBlock≠some tb:=fun e=>by have:=(HOW.o.lt _ e).1;omega
     have uF:u7.ownBlock≠some gb:=fun e=>by have:=(HOW.o.lt _ e).1;omega
     clear BC HRN HOW HQ y0 y1 y2 y3 y4 y5 nf nlt e0 e1 e2 e3 e4 e5 e6 e7 e8;generalize hWW:wr.alloc (.cells #[.string z.name,.string z.fr,.string z.to,.int .i64 z.x,.int .i64 z.tap,.int .i64 z.shift,.int .i64 z.limit,.int .i64 z.short,.int .i64 z.hold] 54)=W at *;generalize hzb:wr.heap.size=zb at *;have q0:W.cell? ⟨w.heap.size,0,none⟩=some (.slice A0 n0 c0):=HQB.o.cell 0;have t0:W.cell? ⟨tb,0,none⟩=some (.slice (some ⟨gb,0,none⟩) n0 n0):=HXB.o.cell 0;have b1:W.cell? ⟨zb,1,none⟩=some (.string z.fr):=eU.o.cell 1;have b2:W.cell? ⟨zb,2,none⟩=some (.string z.to):=eU.o.cell 2;have hsa:z.fr∈x.nodes:=HZS.o.1;have GA:z.to∈x.nodes:=HZS.o.2.1;have cf:W.cell? ⟨gb,dE x.nodes z.fr,none⟩=some (.int .i64 (aD x z.fr)):=by rw[<-(bG bU.o hsa).1];exact t7 Y2.o (bG bU.o hsa).2.2
     have ct:W.cell? ⟨gb,dE x.nodes z.to,none⟩=some (.int .i64 (aD x z.to)):=by rw[<-(bG bU.o GA).1];exact t7 Y2.o (bG bU.o GA).2.2
     have hif:dE x.nodes z.fr<n0:=by have:=(bG bU.o hsa).2.2;have:=aK4.o;omega
     have hit:dE x.nodes z.to<n0:=by have:=(bG bU.o GA).2.2;have:=aK4.o;omega
     have a5T:(dE x.nodes z.fr:Int)<(n0:Int):=by omega
     have a5S:(dE x.nodes z.to:Int)<(n0:Int):=by omega
     generalize hE0:((x.brs.take k).map fun b:Br=>(aD x b.fr,aD x b.to))=E0 at *;have HEE:=lH hE0;have cS:tb+1<=W.heap.size:=by omega
     clear hE0 hWW hzb;generalize u7=v7 at *;refine bZ (S:=fun w'=>w'.cell? ⟨w.heap.size,0,none⟩=some (.slice A0 n0 c0)/\w'.cell? ⟨tb,0,none⟩=some (.slice (some ⟨gb,0,none⟩) n0 n0)/\w'.cell? ⟨zb,1,none⟩=some (.string z.fr)/\w'.cell? ⟨zb,2,none⟩=some (.string z.to)/\w'.cell? ⟨gb,dE x.nodes z.fr,none⟩=some (.int .i64 (aD x z.fr))/\w'.cell? ⟨gb,dE x.nodes z.to,none⟩=some (.int .i64 (aD x z.to))) 22 _ (by kernel_rfl) (by kernel_rfl) rfl ⟨q0,t0,b1,b2,cf,ct⟩ (fun hHeld=>?_);simp only[nI,List.take_zero];refine aLe 0 (v:=?_) rfl (by kernel_rfl) (fun _ _ _ h=>h) (by rfl) ?_ hHeld ?_;rotate_left 1
     ·intro w' hSw;(try dsimp only at hSw);go_simp<;>with_reducible rfl
     (try simp only[Act.put,gL,gK,gJ]);refine aLe 1 (v:=?_) rfl (by kernel_rfl) (fun _ _ _ h=>h) (by rfl) ?_ hHeld ?_;rotate_left 1
     ·intro w' hSw;(try dsimp only at hSw);go_simp<;>with_reducible rfl
     (try simp only[Act.put,gL,gK,gJ]);refine aLe 2 (v:=?_) rfl (by kernel_rfl) (fun _ _ _ h=>h) (by rfl) ?_ hHeld ?_;rotate_left 1
     ·intro w' hSw;(try dsimp only at hSw);go_simp<;>with_reducible rfl
     (try simp only[Act.put,gL,gK,gJ]);refine aLe 3 (v:=?_) rfl (by kernel_rfl) (fun _ _ _ h=>h) (by rfl) ?_ hHeld ?_;rotate_left 1
     ·intro w' hSw;(try dsimp only at hSw);go_simp<;>with_reducible rfl
     (try simp only[Act.put,gL,gK,gJ]);refine aLe 4 (v:=?_) rfl (by kernel_rfl) (fun _ _ _ h=>h) (by rfl) ?_ hHeld ?_;rotate_left 1
     ·intro w' hSw;(try dsimp only at hSw);go_simp<;>with_reducible rfl
     (try simp only[Act.put,gL,gK,gJ]);refine aLe 5 (v:=?_) rfl (by kernel_rfl) (fun _ _ _ h=>h) (by rfl) ?_ hHeld ?_;rotate_left 1
     ·intro w' hSw;(try dsimp only at hSw);go_simp<;>with_reducible rfl
     (try simp only[Act.put,gL,gK,gJ]);refine aLe 6 (v:=?_) rfl (by kernel_rfl) (fun _ _ _ h=>h) (by rfl) ?_ hHeld ?_;rotate_left 1
     ·intro w' hSw;(try dsimp only at hSw);go_simp<;>with_reducible rfl
     (try simp only[Act.put,gL,gK,gJ]);refine aLe 10 (v:=?_) rfl (by kernel_rfl) (fun _ _ _ h=>h) (by rfl) ?_ hHeld ?_;rotate_left 1
     ·intro w' hSw;(try dsimp only at hSw);go_simp<;>with_reducible rfl
     (try simp only[Act.put,gL,gK,gJ]);refine aLe 11 (v:=?_) rfl (by kernel_rfl) (fun _ _ _ h=>h) (by rfl) ?_ hHeld ?_;rotate_left 1
     ·intro w' hSw;(try dsimp only at hSw);go_simp<;>with_reducible rfl
     (try simp only[Act.put,gL,gK,gJ]);refine aLe 12 (v:=?_) rfl (by kernel_rfl) (fun _ _ _ h=>h) (by rfl) ?_ hHeld ?_;rotate_left 1
     ·intro w' hSw;(try dsimp only at hSw);go_simp<;>with_reducible rfl
     (try simp only[Act.put,gL,gK,gJ]);refine aLe 13 (v:=?_) rfl (by kernel_rfl) (fun _ _ _ h=>h) (by rfl) ?_ hHeld ?_;rotate_left 1
     ·intro w' hSw;(try dsimp only at hSw);go_simp<;>with_reducible rfl
     (try simp only[Act.put,gL,gK,gJ]);refine aLe 14 (v:=?_) rfl (by kernel_rfl) (fun _ _ _ h=>h) (by rfl) ?_ hHeld ?_;rotate_left 1
     ·intro w' hSw;(try dsimp only at hSw);go_simp<;>with_reducible rfl
     (try simp only[Act.put,gL,gK,gJ]);refine aLe 15 (v:=?_) rfl (by kernel_rfl) (fun _ _ _ h=>h) (by rfl) ?_ hHeld ?_;rotate_left 1
     ·intro w' hSw;(try dsimp only at hSw);go_simp<;>with_reducible rfl
     (try simp only[Act.put,gL,gK,gJ]);refine aRn 7 (by kernel_rfl) rfl (fun K hK=>?_);go_simp;refine(k_ A0 n0 c0 x.nodes z.fr W.drew aC3.o aFW).mono ?_;rw[EF hsa];rintro e w' ⟨rfl,rfl⟩;go_simp;refine hK.out _ _ hHeld (fun hHeld=>?_);clear hK K;(try simp only[Act.put,gL,gK,gJ]);refine aLe 8 (v:=?_) rfl (by kernel_rfl) (fun _ _ _ h=>h) (by rfl) ?_ hHeld ?_;rotate_left 1
     ·intro w' hSw;(try dsimp only at hSw);go_simp<;>with_reducible rfl
     (try simp only[Act.put,gL,gK,gJ]);refine aLe 9 (v:=?_) rfl (by kernel_rfl) (fun _ _ _ h=>h) (by rfl) ?_ hHeld ?_;rotate_left 1
     ·intro w' hSw;(try dsimp only at hSw);go_simp<;>with_reducible rfl
     (try simp only[Act.put,gL,gK,gJ]);refine aRn 16 (by kernel_rfl) rfl (fun K hK=>?_);go_simp;refine(k_ A0 n0 c0 x.nodes z.to W.drew aC3.o aFW).mono ?_;rw[EF GA];rintro e w' ⟨rfl,rfl⟩;go_simp;refine hK.out _ _ hHeld (fun hHeld=>?_);clear hK K;(try simp only[Act.put,gL,gK,gJ]);refine aLe 17 (v:=?_) rfl (by kernel_rfl) (fun _ _ _ h=>h) (by rfl) ?_ hHeld ?_;rotate_left 1
     ·intro w' hSw;(try dsimp only at hSw);go_simp<;>with_reducible rfl
     (try simp only[Act.put,gL,gK,gJ]);refine aLe 18 (v:=?_) rfl (by kernel_rfl) (fun _ _ _ h=>h) (by rfl) ?_ hHeld ?_;rotate_left 1
     ·intro w' hSw;(try dsimp only at hSw);go_simp<;>with_reducible rfl
     (try simp only[Act.put,gL,gK,gJ]);refine aLe 19 (v:=?_) rfl (by kernel_rfl) (fun _ _ _ h=>h) (by rfl) ?_ hHeld ?_;rotate_left 1
     ·intro w' hSw;(try dsimp only at hSw);go_simp<;>with_reducible rfl
     (try simp only[Act.put,gL,gK,gJ]);refine aRn 20 (by kernel_rfl) rfl (fun K hK=>?_);go_simp;refine hK.out _ _ ?_ (fun hHeld=>?_)
     ·exact⟨jS q0 (by omega),jS t0 (by omega),jS b1 (by omega),jS b2 (by omega),jS cf (by omega),jS ct (by omega)⟩
     clear hK K;(try simp only[Act.put,gL,gK,gJ]);refine aRn 21 (by kernel_rfl) rfl (fun K hK=>?_);refine step_append_lies _ (by rfl) _ _ _ (by rfl) (tb+1) 166 i0 _ 2 16 Tryz.underlying165 L4.o E9.o QF.o LB.o rfl (by omega) v7 _ _ (by rfl) ((HO.o.alloc _).drew) ⟨W.heap.size,0,none⟩ 1 1 (QZ (aD x z.fr,aD x z.to)) (by rfl) (by rfl) (ZY W (aD x z.fr,aD x z.to) 166) (aEE _) (by omega) (by have:=P8.o;simp only[maxLen];omega) (by have:=P8.o;omega) (by simp;omega) (W.heap.size+1) (by simp) ?_;intro gg cap w1 hown1 hgrow xB aSB;refine hK.out _ _ ?_ (fun hHeld=>?_)
     ·exact⟨(hgrow.cell_far ⟨w.heap.size,0,none⟩ (by simp;omega) (Ne.symm nG)).trans (jS q0 (by omega)),(hgrow.cell_far ⟨tb,0,none⟩ (by simp;omega) (Ne.symm qT)).trans (jS t0 (by omega)),(hgrow.cell_far ⟨zb,1,none⟩ (by simp;omega) (Ne.symm lA)).trans (jS b1 (by omega)),(hgrow.cell_far ⟨zb,2,none⟩ (by simp;omega) (Ne.symm lA)).trans (jS b2 (by omega)),(hgrow.cell_far ⟨gb,dE x.nodes z.fr,none⟩ (by simp;omega) (Ne.symm uF)).trans (jS cf (by omega)),(hgrow.cell_far ⟨gb,dE x.nodes z.to,none⟩ (by simp;omega) (Ne.symm uF)).trans (jS ct (by omega))⟩
     clear hK K;(try simp only[Act.put,gL,gK,gJ]);refine wpAnyH_done (by kernel_rfl) ?_ _;refine dK (by rfl) ?_;have QA:Hid (w1.ownsRow (tb+1) 166 2 (.slice (some ⟨gg,0,none⟩) (k+1) cap) (k+1) (((x.brs.take (k+1)).map fun b=>(aD x b.fr,aD x b.to)).flatMap QZ)):=lH (by rw[HZ.o,List.flatMap_append];simpa[QZ] using hown1);have eK:Hid (Below (tb+1) w4 w1):=lH (HLB.o.trans ((aK (bR.alloc cS _)).grown hgrow (by simp;omega) (fun k hk=>(HO.o.lt k hk).1)));clear hgrow xB hown1 hHeld;go_simp;(go_wp2_with fail);go_roundw
     case rel=>exact⟨k+1,by omega,by go_num,eK.o,by have:=eK.o.size;have:=f_.o.lt;omega,QA.o⟩
     case measure=>simp[intOf];omega
    ·have XM:n2=k:=by omega
     subst XM;have HO2:Hid (wr.ownsRow (tb+1) 166 2 u7 (LU x).length ((LU x).flatMap QZ)):=lH (by
      have h:=HOW.o;rw[nL (by have:=iI.o;omega)] at h;have e:(LU x).length=n2:=by unfold LU;rw[jO];exact iI.o
      rw[e];exact h)
     obtain⟨A,c,hu7,hE⟩:=ZU HO2.o;subst hu7;have HE:=lH hE;have HT3:=lH (vX.o.below HLO.o (by omega));have YM:=lH (f_.o.below HLO.o (by omega));have N1:=lH (iJ.o.below HLO.o (by omega));have dY:=lH (cH.o.trans (HLO.o.mono (by omega)));have HBO:=lH (AN bU.o);have HIS:Hid (qR x=gR (aH x) (LU x)):=lH rfl;clear HO2 HOW hE;generalize LU x=es at *;(go_wp2_with fail);clear y0 y1 y2 y3 y4 y5 nf nlt;refine(TW A c (aH x) es wr HE.o HBO.o.1 hbn (by have:=HBO.o.2;omega)).mono ?_;rintro e w5 ⟨hb,g2,rfl,hg,dC⟩;obtain⟨HT5,HX5,HG5⟩:=d_ (HT3.o.bl hb) (YM.o.bl hb) (N1.o.bl hb);have eK:=bW dY hb;have yQ:=lH dC;have lO:tb+1<=g2:=by omega
     obtain⟨x0,x1⟩:=HX5.o.a2;have xf0:=HX5.o.frozen 0;have xf1:=HX5.o.frozen 1;obtain⟨t0,t1⟩:=HT5.o.a2;have tf0:=HT5.o.frozen 0;have tf1:=HT5.o.frozen 1;have a5H:=HX5.o.lt;have a5G:=HT5.o.lt;have bX:tb≠w.heap.size+1:=by omega
     have a5u:w.heap.size+1≠tb:=by omega
     clear hb hg dC;(go_wp2_with fail);have HT9:Hid (aG (((w5.setCell ⟨tb,1,none⟩ (.slice (some ⟨g2,0,none⟩) (aH x) (aH x))).setCell ⟨w.heap.size+1,0,none⟩ (.slice (some ⟨gb,0,none⟩) n0 n0)).setCell ⟨w.heap.size+1,1,none⟩ (.slice (some ⟨g2,0,none⟩) (aH x) (aH x))) (w.heap.size+1) 50 #[.slice (some ⟨gb,0,none⟩) n0 n0,.slice (some ⟨g2,0,none⟩) (aH x) (aH x)]):=lH (((HT5.o.far (by simp;omega) _).set_at (i:=0) _ (by simp;rfl)).set_at (i:=1) _ (by simp));have eV:Hid (Below w.heap.size w (((w5.setCell ⟨tb,1,none⟩ (.slice (some ⟨g2,0,none⟩) (aH x) (aH x))).setCell ⟨w.heap.size+1,0,none⟩ (.slice (some ⟨gb,0,none⟩) n0 n0)).setCell ⟨w.heap.size+1,1,none⟩ (.slice (some ⟨g2,0,none⟩) (aH x) (aH x)))):=lH (((eK.o.setCell (by simp;omega) _).setCell (by simp) _).setCell (by simp) _);have HG9:Hid (aG (((w5.setCell ⟨tb,1,none⟩ (.slice (some ⟨g2,0,none⟩) (aH x) (aH x))).setCell ⟨w.heap.size+1,0,none⟩ (.slice (some ⟨gb,0,none⟩) n0 n0)).setCell ⟨w.heap.size+1,1,none⟩ (.slice (some ⟨g2,0,none⟩) (aH x) (aH x))) gb 3 (ints (iX x)).toArray):=lH (((HG5.o.far (by simp;omega) _).far (by simp;omega) _).far (by simp;omega) _);have HK9:Hid (aG (((w5.setCell ⟨tb,1,none⟩ (.slice (some ⟨g2,0,none⟩) (aH x) (aH x))).setCell ⟨w.heap.size+1,0,none⟩ (.slice (some ⟨gb,0,none⟩) n0 n0)).setCell ⟨w.heap.size+1,1,none⟩ (.slice (some ⟨g2,0,none⟩) (aH x) (aH x))) g2 3 (ints (gR (aH x) es)).toArray):=lH (((yQ.o.far (by simp;omega) _).far (by simp;omega) _).far (by simp;omega) _);generalize ((w5.setCell ⟨tb,1,none⟩ (.slice (some ⟨g2,0,none⟩) (aH x) (aH x))).setCell ⟨w.heap.size+1,0,none⟩ (.slice (some ⟨gb,0,none⟩) n0 n0)).setCell ⟨w.heap.size+1,1,none⟩ (.slice (some ⟨g2,0,none⟩) (aH x) (aH x))=w9 at *;obtain⟨f0,f1⟩:=HT9.o.a2;refine bodyPost_ret (v:=.agg #[.slice (some ⟨gb,0,none⟩) n0 n0,.slice (some ⟨g2,0,none⟩) (aH x) (aH x)]) (by simp[results,Tryz.results59,go_sem,f0,f1]) rfl ?_;exact HP.o _ _ ⟨eV.o,gb,g2,rfl,by omega,by omega,HG9.o,by rw[HIS.o];exact HK9.o⟩
end
