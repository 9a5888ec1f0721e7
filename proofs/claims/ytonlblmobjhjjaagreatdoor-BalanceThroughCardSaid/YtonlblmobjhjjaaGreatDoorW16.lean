import Derived.Test.YtonlblmobjhjjaaGreatDoorW13
import Derived.Test.YtonlblmobjhjjaaGreatDoorW14
import Derived.Maps.RangeWalk
set_option linter.unusedVariables false
set_option linter.unusedSimpArgs false
namespace Go.Proofs.YtonlblmobjhjjaaGreatDoor
set_option maxHeartbeats 8000000
set_option maxRecDepth 100000
variable {A : OA} {B b base c e g i j n : Nat} {ms xs : List Mi} {ps : List Int} {qs : List Rat} {ss : List ByteArray} {v : Value} {w w' : World} {x : bP}
section
open Go.ChangeShapes Go.WideShapes Go.ChangeAt Go.RowKit
attribute [local go_sem ↓] aE
attribute [local go_sem] aJ aI aL aX
theorem zN(ok:cH x)(hi:i<x.nodes.length):(gM x)[i]?=some (fL x i:Int)/\fL x i<aN x:=by
 obtain⟨h1,h2⟩:=iO ok;have hl:i<(gM x).length:=by rw[h1];exact hi
 have hm:=h2 _ (List.getElem_mem hl);have ht:=(yZ (gM x)).2.1 _ (List.getElem_mem hl);have hb:=(jD ok).1;have e:(gM x).getD i 0=(gM x)[i]:=by rw[dQ,jP hl];rfl
 unfold fL;rw[e,jP hl]
 constructor
 ·congr 1
  omega
 ·omega
theorem RM(n:Nat):madeCells #[Value.int .i64 0] n=(bK (List.replicate n 0)).toArray:=by
 apply Array.ext';rw[toList_madeCells_one];unfold bK;simp
theorem dD.lower{b2:Nat}{vs:List Rv}(h:dD w base v vs qs)(hb:b2<=base):dD w b2 v vs qs:=
 ⟨⟨h.own.1,h.own.2.imp id fun⟨g,cap,cur,h1,h2,h3⟩=>⟨g,cap,cur,h1,eN hb h2,h3⟩⟩,h.len,h.ok⟩
def aI9(x:bP)(ps:List Int)(w:Wo)(e:Ending)(w':Wo):Prop:=Below w.heap.size w w'/\∃v us,e=.returned v/\dD w' w.heap.size v us (pN x ps)
theorem RI(g:Nat)(m:jN)(y:Value)(x:bP)(ok:cH x)(A:OA)(n c:Nat)(ps:List Int)(w:Wo)(hg:aD w g 131 (m.cells y))(hr:fN w w.heap.size m x)(hp:oA w w.heap.size A n ps)(hn:n=x.nodes.length)(hz:∀p∈ps,-100000<=p/\p<=100000):Calls Tryz.prog 43 #[.pointer (some ⟨g,0,none⟩),.slice A n c] w (aI9 x ps w):=by
 obtain⟨HG,HR,HP,cL⟩:=gO hg hr hp ok;have zQ:Hid (ps.length=n):=lH hp.len;have aJV:Hid (n<=24):=lH (by rw[hn];exact ok.l0);have yD:=lH hn;have HAB:=lH (BV (x:=x) hz);have HZ:=lH hz;have gB:Hid (m.n1=aN x):=lH (by rw[<-hr.r1.len];exact AY ok);have PZ:Hid (aN x<=24):=lH (eN (jD ok).2 ok.l0);have HMB:=lH (AS g m y w hg);rw[gB.o] at HMB;clear hg hr hp ok hn hz;have hnb:=PZ.o;have tO:∀w:World,(Instr.makeSlice 47 (.int .i64 (aN x:Int)) (.int .i64 (aN x:Int))).run Tryz.prog w=.ok (.slice (some ⟨w.heap.size,0,none⟩) (aN x) (aN x)) (w.alloc (.cells (bK (List.replicate (aN x) 0)).toArray 3)):=fun w=>by
  rw[run_make_row' (P:=Tryz.prog) 47 3 (.int .i64 0) 8 Tryz.underlying47 JA rfl .i64 .i64 (aN x) (by omega) (by omega) w,RM]
 go_enter Tryz.func43,Tryz.ntmps43
 go_wp2_with fail
 refine HMB.o.mono ?_;rintro e w1 ⟨rfl,rfl⟩;have HG0:Hid (aD (w.alloc (.cells (bK (List.replicate (aN x) 0)).toArray 3)) w.heap.size 3 (bK (pJ x ps 0)).toArray):=lH (by rw[NP];exact aD.new w _ _);have HZ0:=lH ((Below.refl w.heap.size w).alloc lR (.cells (bK (List.replicate (aN x) 0)).toArray 3))
 go_wp2_with fail
 clear tO;generalize w.alloc (.cells (bK (List.replicate (aN x) 0)).toArray 3)=w5 at *;obtain⟨gi,hgi⟩:∃gi,gi=w.heap.size:=⟨_,rfl⟩;rw[<-hgi] at HG0 HZ0 ⊢;have HGI:=lH hgi;clear hgi
 go_loopw [16] (fun v16 wr=>∃i:Nat,i<=n/\v16=.int .i64 i/\aD wr gi 3 (bK (pJ x ps i)).toArray/\Below gi w wr) (fun v16 _=>n-(intOf v16).toNat)
 case atStart=>exact⟨0,by omega,rfl,HG0.o,HZ0.o⟩
 case round=>
  obtain⟨i,hi,rfl,hb,hw⟩:=hrel;have vJ:=lH hb;have kB:Hid (Below w.heap.size w wr):=lH (by rw[<-HGI.o];exact hw);clear hb hw;by_cases aR:i<n
  ·obtain⟨p,hp⟩:∃p,ps[i]?=some p:=eG (by have:=zQ.o;omega)
   obtain⟨FZ,hbn⟩:=zN cL.o (i:=i) (by rw[<-yD.o];exact aR);have XF:=HP.o.below kB.o lR;obtain⟨pb,po,hA,hpb,-⟩:=XF.2 (by omega);subst hA;have cp:=XF.at_ hp;have jH:=(HR.o.below kB.o lR).r0;obtain⟨bb,bo,hA0,pY,-⟩:=jH.2 (by have:=jH.len;have:=(iO cL.o).1;have:=yD.o;omega);have cb:=(show oA wr w.heap.size (some ⟨bb,bo,none⟩) m.n0 (gM x) by rw[<-hA0];exact jH).at_ FZ;have y0:=(HG.o.bl kB.o).cell 0;have yl:=(HG.o.bl kB.o).lt;replace y0:wr.cell? ⟨g,0,none⟩=some (.slice (some ⟨bb,bo,none⟩) m.n0 m.c0):=by rw[<-hA0];exact y0
   have cs:wr.cell? ⟨gi,fL x i,none⟩=some (.int .i64 (kA x ps i (fL x i))):=by
    rw[vJ.o.cell,List.getElem?_toArray];unfold bK;rw[pL,nZ hbn];rfl
   have gl:=vJ.o.lt;have gf:=vJ.o.frozen;have iI:=HAB.o i (fL x i);have hpz:=HZ.o p (cS hp);have aEu:=aJV.o;have jE:=lH (SS hp hbn);have hwz:IntKind.i64.wrap (kA x ps i (fL x i)+p)=kA x ps i (fL x i)+p:=G6 (by omega) (by omega);have MZ:(m.n0:Int)=(n:Int):=by have:=jH.len;have:=(iO cL.o).1;have:=yD.o;omega
   have CZ:(i:Int)<(n:Int):=by omega
   have jL:=lZ i;have rH:=oL i;have hbI:(fL x i:Int)<(aN x:Int):=by omega
   have R8:(0:Int)<=(fL x i:Int):=by omega
   have hbt:(fL x i:Int).toNat=fL x i:=oL _;have yC:=lN i;have p5:Hid (n-(i+1)<n-i):=lH (by omega);have tN:pb<wr.heap.size:=jJ hpb kB.o.size;have nG:bb<wr.heap.size:=jJ pY kB.o.size;clear hp FZ hbn XF hpb jH hA0 pY iI hpz;rw[MZ.symm] at CZ;(go_wp2_with fail);go_roundw
   case rel=>exact⟨i+1,aR,aM yC.o,vJ.o.set_at _ (by rw[<-jE.o];unfold bK;rw[List.map_set];simp),(show Below gi w wr from by rw[HGI.o];exact kB.o).setCell lR _⟩
   case measure=>exact p5.o
  ·have RZ:i=n:=by omega
   have HBE:Hid (aD wr gi 3 (bK (pJ x ps ps.length)).toArray):=lH (by rw[zQ.o,<-RZ];exact vJ.o);have CZ:¬(i:Int)<(n:Int):=by omega
   have hnb:=PZ.o;clear RZ;obtain⟨w6,nA⟩:∃w6,w6=wr:=⟨_,rfl⟩;rw[<-nA] at HBE kB ⊢;have d6:=lH kB.o;clear nA;(go_wp2_with fail)
   go_loopw [8,38] (fun v8 v38 wr=>∃(k:Nat)(us:List Rv),k<=aN x/\v38=.int .i64 k/\dD wr w6.heap.size v8 us ((pN x ps).take k)/\Below w6.heap.size w6 wr) (fun _ v38 _=>aN x-(intOf v38).toNat)
   case atStart=>exact⟨0,[],by omega,rfl,lO _ _,bR⟩
   case round=>
    obtain⟨k,us,hk,rfl,ho,hw⟩:=hrel;have HO:=lH ho;have HBM:=lH hw;clear ho hw;by_cases hlk:k<aN x
    ·have hz:=nZ (x:=x) (ps:=ps) (i:=ps.length) hlk
     have hb:=HBE.o.bl HBM.o;obtain⟨z,mK⟩:∃z,kA x ps ps.length k=z:=⟨_,rfl⟩;rw[mK] at hz;have cz:wr.cell? ⟨gi,k,none⟩=some (.int .i64 z):=by
      rw[hb.cell,List.getElem?_toArray];unfold bK;rw[pL,hz];rfl
     have gl:=hb.lt;have iI:=HAB.o ps.length k;rw[mK] at iI;have tN:=zQ.o;have aEu:=aJV.o;have HZB:Hid (-9223372036854775808<=z/\z<=9223372036854775807):=lH (by omega);have KT:Hid ((pN x ps).take (k+1)=(pN x ps).take k++[((z:Int):Rat)]):=lH (kF (by unfold pN;rw[pL,hz];rfl));have iM:(k:Int)<(aN x:Int):=by omega
     have pX:=lZ k;have FX:=oL k;have yC:=lN k;have p5:Hid (aN x-(k+1)<aN x-k):=lH (by omega);clear hz hb iI mK tN aEu;(go_upto_region 11 with fail);clear cz gl iM pX FX;(go_wp2_with fail);refine(oQ z wr HZB.o.1 HZB.o.2).mono ?_;rintro e v1 ⟨bG,r7,rfl,h7⟩;have mM:Hid (Below wr.heap.size wr v1):=lH bG;have H7:=lH h7;have HK6:Hid (((pN x ps).take k).length<=1000000):=lH (by rw[kC];omega);clear bG h7
     go_wp2_with (at_builtin;refine qD rfl (.tmp 42) (.tmp 45) _ rfl w6.heap.size Tryz.underlying96 _ us _ rfl (HO.o.keep mM.o) r7 _ H7.o rfl (by have:=HK6.o;omega) (eN HBM.o.size mM.o.size) ?_)
     intro v' w9 bB hkp hob;have T2:=lH bB;have eU:=lH ((HBM.o.tm mM.o).trans hob);clear bB hkp hob;(go_wp2_with fail);go_roundw
     case rel=>exact⟨k+1,us++[r7],hlk,aM yC.o,by rw[KT.o];exact T2.o,eU.o⟩
     case measure=>exact p5.o
    ·have pP:k=aN x:=by omega
     have HOE:Hid (dD wr w6.heap.size u8 us (pN x ps)):=lH (by
      have h:=HO.o;rw[oP (by rw[qM];omega)] at h;exact h)
     have iM:¬(k:Int)<(aN x:Int):=by omega
     (go_wp2_with fail);go_ret;exact⟨d6.o.tm HBM.o,_,_,rfl,HOE.o.lower d6.o.size⟩
def aIY(q:List Rat)(w:Wo)(e:Ending)(w':Wo):Prop:=Below w.heap.size w w'/\∃(g:Nat)(vs:List Rv),e=.returned (.slice (some ⟨g,0,none⟩) q.length q.length)/\w.heap.size<=g/\Vb w' g vs q
theorem WJ(g:Nat)(m:jN)(A7:OA)(c7:Nat)(x:bP)(ok:cH x)(h8:x.nodes.length<=8)(A:OA)(n c:Nat)(lf:List Rat)(w:Wo)(hg:aD w g 131 (m.cells (.slice A7 (aG x).length c7)))(hr:fN w w.heap.size m x)(hi:lV w w.heap.size A7 (aG x).length (rT x))(hq:hO w w.heap.size A n lf)(hn:n=aN x)(hz:∀q∈lf,bM q<=20000000):Calls Tryz.prog 84 #[.pointer (some ⟨g,0,none⟩),.slice A n c] w (aIY (FD x lf) w):=by
 obtain⟨HG,HR,HI,HQ,cL⟩:=mP hg hr hi hq ok;have HZ:=lH hz;have yD:=lH hn;have N4:Hid (m.n6=(aG x).length):=lH (by rw[<-hr.r6.len,kO]);have HF8:Hid ((aG x).length<=8):=lH (rI ok h8);have PZ:Hid (aN x<=8):=lH (eN (jD ok).2 h8);have gB:Hid (m.n1=aN x):=lH (by rw[<-hr.r1.len];exact AY ok);have y6:=hg.cell 6;have yl:=hg.lt;obtain⟨A0,n0,c0,A1,n1,c1,A2,n2,c2,A3,n3,c3,A4,n4,c4,A5,n5,c5,A6,n6,c6⟩:=m;simp only[jN.cells] at HG N4 gB y6;have e6:=N4.o;subst e6;have hf8:=HF8.o;have tO:∀w:World,(Instr.makeSlice 96 (.int .i64 ((aG x).length:Int)) (.int .i64 ((aG x).length:Int))).run Tryz.prog w=.ok (.slice (some ⟨w.heap.size,0,none⟩) (aG x).length (aG x).length) (w.alloc (.cells (eM (List.replicate (aG x).length sD)).toArray 87)):=fun w=>AT _ (by omega) w
 have TA:=lH ((Below.refl w.heap.size w).alloc lR (.cells (eM (List.replicate (aG x).length sD)).toArray 87));clear hg hr hi hq ok hn hz;go_enter Tryz.func84,Tryz.ntmps84
 have HG0:=lH (aD.new w 87 (eM (List.replicate (aG x).length sD)).toArray)
 go_wp2_with fail
 clear tO y6 yl;generalize w.alloc (.cells (eM (List.replicate (aG x).length sD)).toArray 87)=w5 at *;obtain⟨gr,hgr⟩:∃gr,gr=w.heap.size:=⟨_,rfl⟩;rw[<-hgr] at HG0 ⊢;have HGR:=lH hgr;clear hgr
 go_loopw [22] (fun v22 wr=>∃(i:Nat)(vs:List Rv),i<=(aG x).length/\v22=.int .i64 i/\vs.length=(aG x).length/\Below w.heap.size w wr/\aD wr gr 87 (eM vs).toArray/\iW wr vs ((mN x lf).take i)) (fun v22 _=>(aG x).length-(intOf v22).toNat)
 case atStart=>exact⟨0,_,by omega,rfl,pV,TA.o,HG0.o,fun i q v h=>by simp at h⟩
 case round=>
  obtain⟨i,vs,hi,rfl,TM,hb,hg,hI⟩:=hrel;obtain⟨HB,HGq,HIq,E4⟩:=gO hb hg hI TM;clear hb hg hI TM;by_cases aR:i<(aG x).length
  ·obtain⟨f,hf⟩:∃f,(aG x)[i]?=some f:=⟨_,jP aR⟩
   have yN:=BI (cS hf);have CN:=(HR.o.below HB.o lR).r6;simp only at CN;obtain⟨fb,fo,hA6,M5,-⟩:=CN.2 (by omega);subst hA6;have cf:=CN.at_ (lC hf);have hq:=(HQ.o.below HB.o lR).more HB.o.size;have XX:f<n:=by rw[yD.o];exact yN
   obtain⟨qb,qo,hA,hqb⟩:=hq.form (by omega);subst hA;obtain⟨v,c0,c1,c2,c3,hV⟩:=hq.at_ (bZ (l:=lf) (i:=f) (by rw[hq.len];exact XX));have HV:=lH hV;obtain⟨x0,OU⟩:∃x0,vs[i]?=some x0:=eG (by have:=E4.o;omega);obtain⟨e0,e1,e2,e3⟩:=FG HGq.o OU;have HX0:=lH OU;have gf:=HGq.o.frozen;have gl:=HGq.o.lt;have KT:Hid ((mN x lf).take (i+1)=(mN x lf).take i++[vf lf f]):=lH (kF (by unfold mN;rw[pL,hf];rfl));have CZ:(i:Int)<((aG x).length:Int):=by omega
   have jL:=lZ i;have rH:=oL i;have hfI:(f:Int)<(n:Int):=by omega
   have hf0:=lZ f;have aMP:=oL f;have yC:=lN i;have p5:Hid ((aG x).length-(i+1)<(aG x).length-i):=lH (by omega);have C_:fb<wr.heap.size:=jJ M5 HB.o.size;clear hf yN CN hq hV OU M5;(go_wp2_with fail);go_roundw
   case rel=>exact⟨i+1,vs.set i v,aR,aM yC.o,by rw[jI];exact E4.o,iU (v:=v) HB.o (Nat.le_of_eq HGR.o.symm),ZK HGq.o (c_.1 HX0.o).1 v,by
    rw[KT.o];exact iW.put (v:=v) HIq.o HGq.o HX0.o HV.o (OE (by rw[kC];unfold mN;rw[kJ];omega))⟩
   case measure=>exact p5.o
  ·have RZ:i=(aG x).length:=by omega
   have HRT:Hid (hO wr wr.heap.size (some ⟨gr,0,none⟩) (aG x).length (mN x lf)):=lH (by
    have h:=HIq.o;rw[oP (by unfold mN;rw[kJ];omega)] at h;exact OJ HGq.o E4.o (by unfold mN;rw[kJ]) h)
   have CZ:¬(i:Int)<((aG x).length:Int):=by omega
   clear RZ hi;obtain⟨w6,nA⟩:∃w6,w6=wr:=⟨_,rfl⟩;rw[<-nA] at HB HRT ⊢;clear nA;obtain⟨d6,HG6,HR6,HI6⟩:=gO HB.o (HG.o.bl HB.o) (HR.o.up HB.o) (HI.o.bm HB.o);have p_:Hid (w.heap.size<=w6.heap.size):=lH HB.o.size;clear HB;(go_wp2_with fail);refine(AS g ⟨A0,n0,c0,A1,n1,c1,A2,n2,c2,A3,n3,c3,A4,n4,c4,A5,n5,c5,A6,(aG x).length,c6⟩ (.slice A7 (aG x).length c7) w6 HG6.o).mono ?_;rintro e w6b ⟨rfl,rfl⟩;have e1:=gB.o;subst e1;(go_wp2_with fail);refine(vU (aN x) w6 (by have:=PZ.o;omega)).mono ?_;rintro e w7 ⟨fR,ga,va,rfl,EE,fP,hva⟩;obtain⟨HVA,GM,gN⟩:=eR (aAV fP hva) EE fR;have y6:=(HG6.o.bl fR).cell 6;have yl:=(HG6.o.bl fR).lt;clear fR EE fP hva;(go_wp2_with fail);clear y6 yl
   go_loopw [43] (fun v43 wr=>∃(i:Nat)(us:List Rv),i<=(aG x).length/\v43=.int .i64 i/\Vb wr ga us (sS (aG x) (pM x lf) (CQ (aN x)) i)/\Below w6.heap.size w6 wr) (fun v43 _=>(aG x).length-(intOf v43).toNat)
   case atStart=>exact⟨0,_,Nat.zero_le _,rfl,HVA.o,gN.o⟩
   case round=>
    obtain⟨i,us,hi,rfl,hv,hb⟩:=hrel;have DF:=lH hv;have HB:=lH hb;clear hv hb;by_cases rH:i<(aG x).length
    ·obtain⟨f,hf⟩:∃f,(aG x)[i]?=some f:=⟨_,jP rH⟩
     have yN:=BI (cS hf);have CN:=(HR6.o.below HB.o lR).r6;simp only at CN;obtain⟨fb,fo,hA6,M5,-⟩:=CN.2 (by omega);subst hA6;have cf:=CN.at_ (lC hf);have hqi:=(HI6.o.below HB.o lR).more HB.o.size;obtain⟨row,kY⟩:∃row,(rT x)[i]?=some row:=eG (by rw[(qL cL.o).1];exact rH);have RV:=(qL cL.o).2 row (cS kY);obtain⟨mb,mo,hA7,hmb⟩:=hqi.form (by omega);subst hA7;obtain⟨⟨qa,qn,qc⟩,q0,q1,q2,q3⟩:=hqi.at_ kY;dsimp only at q0 q1 q2 q3;have hqn:(aG x).length=qn:=by rw[<-q1.len];exact RV.symm
     subst hqn;have aOf:=lH q1;have m9:=lH (I5 cL.o h8 row (cS kY));have HRQ:Hid (∀q∈mN x lf,bM q<=20000000):=lH fun q h=>by
      unfold mN at h;obtain⟨f,hf,rfl⟩:=List.mem_map.1 h;by_cases C_:f<lf.length
      ·exact HZ.o _ (cS (bZ C_))
      ·unfold vf
       rw[dQ,List.getElem?_eq_none (by omega)];exact eN (lM 0 (by decide) (by decide)) (by decide)
     have HED:Hid (JY row (mN x lf)=pM x lf i):=lH (by
      unfold pM;rw[dQ,kY];rfl)
     have aOd:=lH (HRT.o.bm HB.o);have y6:=(HG6.o.bl HB.o).cell 7;have yl:=(HG6.o.bl HB.o).lt;have CZ:(i:Int)<((aG x).length:Int):=by omega
     have jL:=lZ i;have aTm:=oL i;have hfI:(f:Int)<(aN x:Int):=by omega
     have hf0:=lZ f;have aMP:=oL f;have yC:=lN i;have p5:Hid ((aG x).length-(i+1)<(aG x).length-i):=lH (by omega);have C_:fb<wr.heap.size:=jJ M5 HB.o.size;have hml:mb<wr.heap.size:=jJ hmb lR;have HF:=lH hf;have HFB:=lH yN;clear hf yN CN hqi kY RV M5 hmb q1 q2 q3;(go_wp2_with fail);refine(aB9 qa (aG x).length qc (some ⟨gr,0,none⟩) (aG x).length (aG x).length row (mN x lf) 20000000 wr aOf.o aOd.o lR (by omega) m9.o HRQ.o (by omega)).mono ?_;rintro e w8 ⟨mL,v8,rfl,h8⟩;rw[HED.o] at h8;obtain⟨hX,H8,HVq⟩:=eR mL h8 (DF.o.up mL);have pQ:f<(sS (aG x) (pM x lf) (CQ (aN x)) i).length:=by rw[uO];unfold CQ;rw[pV];exact HFB.o
     obtain⟨xe',hx',c0,c1',c2',c3',l1,f1⟩:=HVq.o.elem (j:=f) pQ;have HJL:=lH pQ;clear mL h8 hx' pQ q0 cf y6 yl C_ hml;(go_wp2_with fail);go_roundw
     case rel=>exact⟨i+1,_,rH,aM yC.o,by
      have h:=HVq.o.put (j:=f) (x:=v8) HJL.o H8.o;have e:sS (aG x) (pM x lf) (CQ (aN x)) (i+1)=(sS (aG x) (pM x lf) (CQ (aN x)) i).set f (pM x lf i):=by
       show(sS (aG x) (pM x lf) (CQ (aN x)) i).set ((aG x).getD i 0) (pM x lf i)=_;rw[dQ,HF.o];rfl
      rw[e];exact h,iU (v:=v8) (HB.o.tm hX.o) GM.o⟩
     case measure=>exact p5.o
    ·have RZ:i=(aG x).length:=by omega
     have HVE:Hid (Vb wr ga us (FD x lf)):=lH (by have h:=DF.o;rw[RZ] at h;exact h);have CZ:¬(i:Int)<((aG x).length:Int):=by omega
     (go_wp2_with fail);go_ret;exact⟨d6.o.tm HB.o,ga,us,by rw[IH];rfl,eN p_.o GM.o,HVE.o⟩
theorem WT{x v y:Rv}{r:Rat}(h0:w.cell? ⟨g,j*4,none⟩=some (.bool x.b1))(h1:w.cell? ⟨g,j*4+1,none⟩=some (.slice x.A x.n x.c))(h2:w.cell? ⟨g,j*4+2,none⟩=some (.bool x.b2))(h3:w.cell? ⟨g,j*4+3,none⟩=some (.slice x.A2 x.m x.d))(hy:cY w w.heap.size r y):cY (fY w g j v) (fY w g j v).heap.size r y:=by
 have k0:=bS.keep hy h0 (fun k x e=>by cases e) (.bool v.b1);have c1:(w.setCell ⟨g,j*4,none⟩ (.bool v.b1)).cell? ⟨g,j*4+1,none⟩=some (.slice x.A x.n x.c):=by
  rw[World.cell?_setCell_other _ _ _ _ (fun e=>by injection e with e1 e2;omega)];exact h1
 have k1:=bS.keep k0 c1 (fun k x e=>by cases e) (.slice v.A v.n v.c);have c2:((w.setCell ⟨g,j*4,none⟩ (.bool v.b1)).setCell ⟨g,j*4+1,none⟩ (.slice v.A v.n v.c)).cell? ⟨g,j*4+2,none⟩=some (.bool x.b2):=by
  rw[World.cell?_setCell_other _ _ _ _ (fun e=>by injection e with e1 e2;omega),World.cell?_setCell_other _ _ _ _ (fun e=>by injection e with e1 e2;omega)];exact h2
 have k2:=bS.keep k1 c2 (fun k x e=>by cases e) (.bool v.b2);have c3:(((w.setCell ⟨g,j*4,none⟩ (.bool v.b1)).setCell ⟨g,j*4+1,none⟩ (.slice v.A v.n v.c)).setCell ⟨g,j*4+2,none⟩ (.bool v.b2)).cell? ⟨g,j*4+3,none⟩=some (.slice x.A2 x.m x.d):=by
  rw[World.cell?_setCell_other _ _ _ _ (fun e=>by injection e with e1 e2;omega),World.cell?_setCell_other _ _ _ _ (fun e=>by injection e with e1 e2;omega),World.cell?_setCell_other _ _ _ _ (fun e=>by injection e with e1 e2;omega)];exact h3
 exact bS.keep k2 c3 (fun k x e=>by cases e) (.slice v.A2 v.m v.d)
theorem dD.elem{us:List Rv}(h:dD w base (.slice A n c) us qs)(hj:j<qs.length):∃g x,A=some ⟨g,0,none⟩/\n=qs.length/\base<=g/\g<w.heap.size/\(∀o,w.frozen? ⟨g,o,none⟩=false)/\
    w.cell? ⟨g,j*4,none⟩=some (.bool x.b1)/\w.cell? ⟨g,j*4+1,none⟩=some (.slice x.A x.n x.c)/\w.cell? ⟨g,j*4+2,none⟩=some (.bool x.b2)/\w.cell? ⟨g,j*4+3,none⟩=some (.slice x.A2 x.m x.d)/\cY w w.heap.size (vf qs j) x/\
    ∀(v:Rv)(p:Rat),cY w w.heap.size p v->dD (fY w g j v) base (.slice A n c) (us.set j v) (qs.set j p):=by
 obtain⟨h1,h2,h3⟩:=h;have hju:j<us.length:=by rw[h2];exact hj
 obtain⟨x,hx⟩:∃x,us[j]?=some x:=⟨_,jP hju⟩;rcases h1.2 with⟨e1,e2⟩ | ⟨g,cap,cur,e1,e2,hb,e4,e5,e6,e7,e8⟩
 ·omega
 injection e1 with f1 f2 f3;have hc:∀i u,i<4->x.cells[i]?=some u->cur.toList[j*4+i]?=some u:=fun i u hi hu=>by
  have:=sN hx i hi;rw[<-e7,List.getElem?_take,hu] at this;split at this
  ·exact this
  ·cases this
 have gH:∀i u,i<4->x.cells[i]?=some u->w.cell? ⟨g,j*4+i,none⟩=some u:=fun i u hi hu=>by
  rw[hb.cell,<-Array.getElem?_toList];exact hc i u hi hu
 refine⟨g,x,f1,by rw[f2,h2],e2,hb.lt,fun o=>hb.frozen o,gH 0 _ (by decide) rfl,gH 1 _ (by decide) rfl,gH 2 _ (by decide) rfl,gH 3 _ (by decide) rfl,h3 j _ x (bZ hj) hx,fun v p hv=>?_⟩;have B0:=hb;have B1:=B0.set_ (j*4) (.bool v.b1);have B2:=B1.set_ (j*4+1) (.slice v.A v.n v.c);have B3:=B2.set_ (j*4+2) (.bool v.b2);have B4:=B3.set_ (j*4+3) (.slice v.A2 v.m v.d);have keep:∀(y:Rv)(r:Rat),cY w w.heap.size r y->cY (fY w g j v) (fY w g j v).heap.size r y:=fun y r hy=>WT (gH 0 _ (by decide) rfl) (gH 1 _ (by decide) rfl) (gH 2 _ (by decide) rfl) (gH 3 _ (by decide) rfl) hy;refine⟨⟨by rw[dI],.inr ⟨g,cap,_,by rw[f1,f2,f3,jI],e2,B4,by rw[jI];exact e4,e5,by simp only[Array.size_setIfInBounds];exact e6,?_,fun u hu=>?_⟩⟩,by rw[jI,jI,h2],fun i q y hq hy=>?_⟩
 ·simp only[Array.toList_setIfInBounds]
  rw[jI,iK _ _ _ _ (by omega),iK _ _ _ _ (by omega),iK _ _ _ _ (by omega),iK _ _ _ _ (by omega),e7];exact zA us j v hju
 ·simp only[Array.toList_setIfInBounds] at hu
  rcases List.mem_or_eq_of_mem_set hu with hu | rfl
  ·rcases List.mem_or_eq_of_mem_set hu with hu | rfl
   ·rcases List.mem_or_eq_of_mem_set hu with hu | rfl
    ·rcases List.mem_or_eq_of_mem_set hu with hu | rfl
     ·exact e8 u hu
     ·exact fun k x e=>by cases e
    ·exact fun k x e=>by cases e
   ·exact fun k x e=>by cases e
  ·exact fun k x e=>by cases e
 ·by_cases e:j=i
  ·subst e
   rw[List.getElem?_set,if_pos rfl,if_pos hj] at hq;rw[List.getElem?_set,if_pos rfl,if_pos hju] at hy;injection hq with hq;injection hy with hy;subst hq;subst hy;exact keep _ _ hv
  ·rw[List.getElem?_set,if_neg e] at hq hy
   exact keep _ _ (h3 i q y hq hy)
theorem E9{ops:Array Oper}{rest:List Oper}{o:Oper}{a:Act}{Q:Exit->Act->World->Prop}{w:Wo}(C4:o.guard=none)(s x:Operand)(t:TypeId)(ho:o.op=.call { callee:=.builtin .append,args:=#[s,x],argTypes:=#[t,t] })(base:Nat)(ht:Tryz.prog.underlying t=some (.slice 87))(v:Value)(hs:a.eval s=v)(bB:bO tQ w base 87 4 v 0 [])(A:OA)(m c:Nat)(qs:List Rat)(hx:a.eval x=.slice A m c)(hr:hO w w.heap.size A m qs)(yO:m<=1000000)(cP:base<=w.heap.size)(h:∀A' c' us w',dD w' base (.slice A' m c') us qs->Below base w w'->wpList Tryz.prog ops Q rest (a.put o.dst (.slice A' m c')) w'):wpList Tryz.prog ops Q (o::rest) a w:=by
 obtain⟨i0,jL,pF,kT,kS⟩:=jW;obtain⟨vs,h1,h2,h3,h4⟩:=hr;refine mT (S:=tQ) C4 s x t ho base 87 i0 _ 4 64 ht jL pF kT kS rfl (by omega) qA v 0 [] hs bB A m c (eM vs) hx h3 (fun u hu=>?_) (by simp only[maxLen];omega) (by omega) cP fun v' w' g1 g2 _ _=>?_
 ·unfold eM at hu
  obtain⟨y,-,hy⟩:=List.mem_flatMap.1 hu;exact wE y u hy
 ·rw[Nat.zero_add,List.nil_append] at g1
  obtain⟨A',c',e,-⟩:=bO.shape g1;subst e;exact h A' c' vs w' ⟨by rw[h1];exact g1,by rw[h1,h2],fun i q y hq hy=>(h4 i q y hq hy).keeps g2⟩ g2.low
theorem Q_:bO tQ (w.alloc (.cells #[] 87)) w.heap.size 87 4 (.slice (some ⟨w.heap.size,0,none⟩) 0 0) 0 []:=
 ⟨rfl,.inr ⟨w.heap.size,0,#[],rfl,lR,aD.new w _ _,lR,by simp[maxLen],rfl,rfl,fun u hu=>by simp at hu⟩⟩
theorem NM(A:OA)(n c:Nat)(qs:List Rat)(w:Wo)(hr:hO w w.heap.size A n qs)(hn:n<=1000000):Calls Tryz.prog 83 #[.slice A n c] w fun e w'=>Below w.heap.size w w'/\∃A' c' us,e=.returned (.slice A' n c')/\dD w' w.heap.size (.slice A' n c') us qs:=by
 have q22:∀(w:Wo)(a:OA)(n c n' c':Nat),(binOp .eql 96 (.slice a n c) (.slice none n' c')).run Tryz.prog w=.ok (.bool a.isNone) w:=fun w a n c n' c'=>Lib.run_eql_slice_nil w _ _ a n c n' c' Tryz.underlying96;have HR:=lH hr;cases A with
 | none=>
  have h0:n=0:=by
   rcases Nat.eq_zero_or_pos n with h | h
   ·exact h
   ·obtain⟨b,off,e,_⟩:=hr.form h;cases e
  subst h0;have aH5:qs=[]:=List.eq_nil_of_length_eq_zero hr.len;subst aH5;clear hr;go_enter Tryz.func83,Tryz.ntmps83
  (go_wp2_with fail);go_ret;exact⟨bR,none,0,[],rfl,lO _ _⟩
 | some ad=>
  clear hr;have hz:=vM w (.cells #[] 87);have HZ:=lH hz;clear hz;go_enter Tryz.func83,Tryz.ntmps83
  go_wp2_with (at_builtin;refine E9 rfl _ _ 96 rfl w.heap.size Tryz.underlying96 _ rfl Q_ (some ad) n c qs rfl ?qc1 ?qc2 ?qc3 ?_)
  case qc1=>exact(HR.o.below HZ.o lR).more HZ.o.size
  case qc2=>exact hn
  case qc3=>exact HZ.o.size
  intro A' c' us w' ho hb;have HO:=lH ho;have HB:=lH (HZ.o.trans hb);clear ho hb;(go_wp2_with fail);go_ret;exact⟨HB.o,A',c',us,rfl,HO.o⟩
def RtQ(q:Rat):Value->World->Prop:=fun v w=>∃r:Rv,v=.agg #[.bool r.b1,.slice r.A r.n r.c,.bool r.b2,.slice r.A2 r.m r.d]/\cY w w.heap.size q r
theorem RtQ.up{q:Rat}(h:RtQ q v w)(hb:Below w.heap.size w w'):RtQ q v w':=by
 obtain⟨r,e,h1⟩:=h;exact⟨r,e,h1.up hb⟩
def TH(x:bP)(ms:List Mi)(B0:Nat)(w':Wo)(fv:Value):Prop:=∃(g:Nat)(m:jN)(y:Value)(A:OA)(c gi:Nat)(ga:Nat)(B:OA)(d:Nat),fv=.agg #[.pointer (some ⟨g,0,none⟩),.slice A ms.length c,.slice (some ⟨gi,0,none⟩) (aG x).length (aG x).length,.slice (some ⟨ga,0,none⟩) (aN x) (aN x),.slice B ms.length d]/\((∀b off,A=some ⟨b,off,none⟩->B0<=b)/\B0<=gi)/\aD w' g 131 (m.cells y)/\fN w' w'.heap.size m x/\lV w' w'.heap.size A ms.length (IN x ms)/\lV w' w'.heap.size (some ⟨gi,0,none⟩) (aG x).length (wY (YB (aG x).length (IN x ms) ms))/\hO w' w'.heap.size (some ⟨ga,0,none⟩) (aN x) (YK x ms)/\hO w' w'.heap.size B ms.length (aD5 x ms (YK x ms))
theorem TH.up{B0:Nat}{fv:Value}(h:TH x ms B0 w fv)(hb:Below w.heap.size w w'):TH x ms B0 w' fv:=by
 obtain⟨g,m,y,A,c,gi,ga,B,d,e,h0,h1,h2,h3,h4,h5,h6⟩:=h;exact⟨g,m,y,A,c,gi,ga,B,d,e,h0,h1.bl hb,h2.up hb,h3.up hb,h4.up hb,(h5.below hb lR).more hb.size,(h6.below hb lR).more hb.size⟩
theorem TH.low{B0 B1:Nat}{fv:Value}(h:TH x ms B0 w fv)(hB:B1<=B0):TH x ms B1 w fv:=by
 obtain⟨g,m,y,A,c,gi,ga,B,d,e,h0,h1⟩:=h;exact⟨g,m,y,A,c,gi,ga,B,d,e,⟨fun b off e=>eN hB (h0.1 b off e),eN hB h0.2⟩,h1⟩
def aAl(x:bP)(ms:List Mi)(c:Int):Prop:=(RD x ms≠0/\c=RD x ms)\/(RD x ms=0/\¬aCP x ms/\c=8)\/(RD x ms=0/\aCP x ms/\¬(∀q∈YK x ms,bJ q)/\c=2)\/(RD x ms=0/\aCP x ms/\(∀q∈YK x ms,bJ q)/\c=0)
theorem aAl.zero{c:Int}(h:aAl x ms c)(h0:c=0):RD x ms=0/\aCP x ms/\∀q∈YK x ms,bJ q:=by
 rcases h with⟨h1,h2⟩ | ⟨h1,h2,h3⟩ | ⟨h1,h2,h3,h4⟩ | ⟨h1,h2,h3,h4⟩
 ·omega
 ·omega
 ·omega
 ·exact⟨h1,h2,h3⟩
theorem aAl.one{c d:Int}(h:aAl x ms c)(g:aAl x ms d):c=d:=by
 rcases h with⟨h1,h2⟩ | ⟨h1,h2,h3⟩ | ⟨h1,h2,h3,h4⟩ | ⟨h1,h2,h3,h4⟩<;>rcases g with⟨g1,g2⟩ | ⟨g1,g2,g3⟩ | ⟨g1,g2,g3,g4⟩ | ⟨g1,g2,g3,g4⟩<;>first | omega | exact absurd g2 h2 | exact absurd h2 g2 | exact absurd g3 h3 | exact absurd h3 g3
theorem aW.keepN{T:Nat}{l:List ByteArray}{cs:Array Value}{y u:Value}(h:aW w w.heap.size A n l)(hb:aD w g T cs)(hs:NoS cs)(hy:cs[i]?=some y):aW (w.setCell ⟨g,i,none⟩ u) (w.setCell ⟨g,i,none⟩ u).heap.size A n l:=by
 refine⟨h.1,h.2.1,fun h0=>?_⟩;obtain⟨b,off,e,aR,hc⟩:=h.2.2 h0;have hbg:b≠g:=by
  rintro rfl;obtain⟨z,hz⟩:∃z,l[0]?=some z:=eG (by rw[h.1];exact h0);have:=hc 0 (.string z) (by unfold gT;rw[pL,hz];rfl);rw[Nat.add_zero,hb.cell] at this;exact hs _ _ this _ rfl
 refine⟨b,off,e,by simpa[World.setCell] using aR,fun j v hv=>?_⟩;rw[World.cell?_setCell_other _ _ _ _ (fun e2=>hbg (by injection e2 with e2;exact e2.symm))];exact hc j v hv
theorem yY{B:OA}{m d:Nat}:NoS #[.slice A n c,.slice B m d]:=fun i u h=>by
 have h2:=Array.mem_toList_iff.2 (Array.mem_of_getElem? h);simp only[List.mem_cons,List.not_mem_nil,or_false] at h2;rcases h2 with rfl | rfl<;>exact fun b e=>by cases e
theorem RG(g:Nat)(m:jN)(A7:OA)(c7:Nat)(x:bP)(ok:cH x)(h8:x.nodes.length<=8)(A:OA)(n c:Nat)(qs:List Rat)(w:Wo)(hg:aD w g 131 (m.cells (.slice A7 (aG x).length c7)))(hr:fN w w.heap.size m x)(hi:lV w w.heap.size A7 (aG x).length (rT x))(hq:hO w w.heap.size A n qs)(hn:n=aN x)(hz:∀q∈qs,bM q<=1000):Calls Tryz.prog 42 #[.pointer (some ⟨g,0,none⟩),.slice A n c] w (aIY (FD x (iS x qs x.brs.length)) w):=by
 obtain⟨HG,HR,HI,HQ,cL⟩:=mP hg hr hi hq ok;have yD:=lH hn;have pT:Hid (qs.length=aN x):=lH (by rw[<-hn];exact hq.len);have HZL:Hid (∀k,k<=x.brs.length->∀q∈iS x qs k,bM q<=1200):=lH fun k hk q hq=>by
  have h1:=FS ok pT.o hz k hk q hq;have:=ok.l2;omega
 have nD:Hid (∀k,k<=x.brs.length->(iS x qs k).length=aN x):=lH fun k hk=>by rw[uM k hk];exact pT.o
 have pK:Hid (x.brs.length=m.n4):=lH (by rw[<-wT];exact hr.r4.len);have LH:Hid (x.brs.length=m.n5):=lH (by rw[<-ML];exact hr.r5.len);have e_:Hid (x.brs.length=m.n2):=lH (by rw[<-nS,<-kO];exact hr.r2.len);have xJ:Hid (x.brs.length=m.n3):=lH (by rw[<-uJ,<-kO];exact hr.r3.len);have PZ:Hid (aN x<=24):=lH (eN (jD ok).2 ok.l0);have aCN:Hid (x.brs.length<=1000):=lH (by have:=ok.l2;omega);obtain⟨A0,n0,c0,A1,n1,c1,A2,n2,c2,A3,n3,c3,A4,n4,c4,A5,n5,c5,A6,n6,c6⟩:=m;simp only[jN.cells] at HG pK LH e_ xJ;have e4:=pK.o;have e5:=LH.o;have e2:=e_.o;have e3:=xJ.o;subst e4;subst e5;subst e2;subst e3;clear hg hr hi hq ok hz hn;go_enter Tryz.func42,Tryz.ntmps42
 go_wp2_with fail
 refine(NM A n c qs w HQ.o (by have:=yD.o;have:=PZ.o;omega)).mono ?_;rintro e w1 ⟨bG,L,lc,us0,rfl,ho1⟩;have zR:=lH ho1;have cR:=lH bG;have y5:=(HG.o.bl bG).cell 5;have yl:=(HG.o.bl bG).lt;clear bG ho1
 go_wp2_with fail
 clear y5 yl
 go_loopw [15] (fun v15 wr=>∃(k:Nat)(us:List Rv),k<=x.brs.length/\v15=.int .i64 k/\dD wr w.heap.size (.slice L n lc) us (iS x qs k)/\Below w.heap.size w wr) (fun v15 _=>x.brs.length-(intOf v15).toNat)
 case atStart=>exact⟨0,us0,by omega,rfl,by rw[uK];exact zR.o,cR.o⟩
 case round=>
  obtain⟨k,us,hk,rfl,ho,hb⟩:=hrel;have HO:=lH ho;have HB:=lH hb;clear ho hb;by_cases aR:k<x.brs.length
  ·obtain⟨b,xA⟩:∃b,x.brs[k]?=some b:=⟨_,jP aR⟩
   obtain⟨a1,a2,a3,a4⟩:=AU xA;have rX:=cS xA;have zS:=lH (cL.o.br b rX);have HJ1:Hid (aA x b.fr<aN x):=lH (bT cL.o (cL.o.br b rX).1).2.1;have HJ2:Hid (aA x b.to<aN x):=lH (bT cL.o (cL.o.br b rX).2.1).2.1;have jE:=lH (uL (qs:=qs) xA);have HA1:=lH a1;have HA2:=lH a2;have vK:=(HR.o.bm HB.o).r5;simp only at vK;obtain⟨db,do',hA5,hdb⟩:=vK.form (by omega);subst hA5;obtain⟨xc,p0,p1,p2,p3,p4⟩:=vK.at_ a4;have iM:(k:Int)<(x.brs.length:Int):=by omega
   have pX:=lZ k;have FX:=oL k;have yC:=lN k;have p5:Hid (x.brs.length-(k+1)<x.brs.length-k):=lH (by omega);have Z2:=lH p4;have rM:=lH aR;clear p4 vK xA rX a1 a2 a3 a4;obtain⟨g0,-,hL,-,yM,xY,-⟩:=HO.o.elem (j:=aA x b.fr) (by rw[nD.o k (by omega)];exact HJ1.o);subst hL;have HGB:=lH yM;have p_:=lH xY;clear yM xY;(go_upto_region 5 with fail);clear p0 p1 p2 p3 hdb;have hz:=vM wr (.cells #[.bool xc.b1,.slice xc.A xc.n xc.c,.bool xc.b2,.slice xc.A2 xc.m xc.d] 87);have TE:=lH (aD.new wr 87 #[.bool xc.b1,.slice xc.A xc.n xc.c,.bool xc.b2,.slice xc.A2 xc.m xc.d]);replace HO:=lH (HO.o.keep hz);replace Z2:=lH (Z2.o.up hz);have LK:=bX HB hz;clear hz;generalize wr.alloc (.cells #[.bool xc.b1,.slice xc.A xc.n xc.c,.bool xc.b2,.slice xc.A2 xc.m xc.d] 87)=wa at *;generalize wr.heap.size=gq at *;have HRr:=lH (HR.o.bm LK.o);have uS:=HRr.o.r2;simp only at uS;obtain⟨fb,fo,hAf,yN,-⟩:=uS.2 (by omega);have f0:=(show oA wa wa.heap.size (some ⟨fb,fo,none⟩) x.brs.length (eV (jB x)) by rw[<-hAf];exact uS).at_ (lC HA1.o);have yy:=(HG.o.bl LK.o).cell 2;have yl:=(HG.o.bl LK.o).lt;replace yy:wa.cell? ⟨g,2,none⟩=some (.slice (some ⟨fb,fo,none⟩) x.brs.length c2):=by rw[<-hAf];exact yy
   obtain⟨g1,x1,e,-,-,gl,gf,u0,u1,u2,u3,u4,-⟩:=HO.o.elem (j:=aA x b.fr) (by rw[(nD.o k (qY rM.o))];exact HJ1.o);injection e with e;injection e with e;subst e;have dE:=lH u4;have aCC:Hid (∀W2,Below wa.heap.size wa W2->∃x2:Rv,(∀o,W2.frozen? ⟨g0,o,none⟩=false)/\g0<W2.heap.size/\W2.cell? ⟨g0,aA x b.fr*4,none⟩=some (.bool x2.b1)/\W2.cell? ⟨g0,aA x b.fr*4+1,none⟩=some (.slice x2.A x2.n x2.c)/\W2.cell? ⟨g0,aA x b.fr*4+2,none⟩=some (.bool x2.b2)/\W2.cell? ⟨g0,aA x b.fr*4+3,none⟩=some (.slice x2.A2 x2.m x2.d)/\∀(v:Rv)(p:Rat),cY W2 W2.heap.size p v->dD (fY W2 g0 (aA x b.fr) v) w.heap.size (.slice (some ⟨g0,0,none⟩) n lc) (us.set (aA x b.fr) v) ((iS x qs k).set (aA x b.fr) p)):=lH fun W2 hb=>by
    obtain⟨g2,x2,e,-,-,b1,b2,b3,b4,b5,b6,-,b8⟩:=(HO.o.keep hb).elem (j:=aA x b.fr) (by rw[(nD.o k (qY rM.o))];exact HJ1.o);injection e with e;injection e with e;subst e;exact⟨x2,b2,b1,b3,b4,b5,b6,b8⟩
   obtain⟨z0,z1,z2,z3,zl⟩:=TE.o.b4;have tP:=HJ1.o;have iM:(k:Int)<(x.brs.length:Int):=by have:=rM.o;omega
   have pX:=lZ k;have FX:=oL k;have GS:=yD.o;have i1:((aA x b.fr:Nat):Int)<(n:Int):=by omega
   have i10:(0:Int)<=((aA x b.fr:Nat):Int):=by omega
   have i1n:((aA x b.fr:Nat):Int).toNat=aA x b.fr:=oL _;have nC:Hid (bM (vf (iS x qs k) (aA x b.fr))+bM (mS b)+1<=35184372088832):=lH (by
    have h1:=HZL.o k (qY rM.o) _ (cS (bZ (l:=iS x qs k) (i:=aA x b.fr) (by rw[(nD.o k (qY rM.o))];exact HJ1.o)));have h2:=u_ zS.o.2.2.2;omega)
   clear uS hAf u4 GS tP;refine rS 21 (fun hHeld=>?_);simp only[oO,List.take_zero];refine d7 [0,1,2,3,4,5,6,7,8,9,10,11,12,13,14,15,16,17,18] ?_;clear f0 yy yl u0 u1 u2 u3 z0 z1 z2 z3 zl iM pX FX yN;have Z5:=lH (aH (Below.refl wa.heap.size wa));generalize wa.drew=v0 at *;refine bI 19 (fun K hK=>?_);go_simp;refine(UT (dE.o.up Z5.o) (Z2.o.up Z5.o) nC.o).mono ?_;rintro e v1 ⟨bG,r7,rfl,h7⟩;have mM:Hid (Below wa.heap.size wa v1):=lH (Z5.o.tm bG);have H7:=lH h7;clear bG h7 Z5;go_simp;refine iJ hK mM.o (fun hHeld=>?_);clear hK K;refine d7 [20] ?_;refine fZ ?_;clear hHeld gl gf;obtain⟨x2,ff,fl,k0,k1,k2,k3,XE⟩:=aCC.o v1 mM.o;have HOn:=lH (XE r7 _ H7.o);have HBn:Hid (Below w.heap.size w (fY v1 g0 (aA x b.fr) r7)):=lH (iU (v:=r7) (LK.o.tm mM.o) HGB.o);clear XE aCC;have HCn:Hid (aD (fY v1 g0 (aA x b.fr) r7) gq 87 #[.bool xc.b1,.slice xc.A xc.n xc.c,.bool xc.b2,.slice xc.A2 xc.m xc.d]):=lH ((TE.o.bl mM.o).far4 r7 (by have:=p_.o;omega));have HXn:Hid (cY (fY v1 g0 (aA x b.fr) r7) (fY v1 g0 (aA x b.fr) r7).heap.size (mS b) xc):=lH (WT k0 k1 k2 k3 (Z2.o.up mM.o));have Z_:=lH (I6 (x:=x) (b:=b) (HZL.o k (qY rM.o)) (by rw[nD.o k (qY rM.o)];exact HJ1.o) zS.o.2.2.2);have HLA:Hid ((wW x (iS x qs k) b).length=aN x):=lH (by rw[uN];exact nD.o k (qY rM.o));have HOA:Hid (dD (fY v1 g0 (aA x b.fr) r7) w.heap.size (.slice (some ⟨g0,0,none⟩) n lc) (us.set (aA x b.fr) r7) (wW x (iS x qs k) b)):=lH HOn.o;clear HO LK TE Z2 dE nC mM H7 HOn;(go_upto_region 6 with fail);clear ff fl k0 k1 k2 k3;generalize hwb:(((v1.setCell ⟨g0,aA x b.fr*4,none⟩ (.bool r7.b1)).setCell ⟨g0,aA x b.fr*4+1,none⟩ (.slice r7.A r7.n r7.c)).setCell ⟨g0,aA x b.fr*4+2,none⟩ (.bool r7.b2)).setCell ⟨g0,aA x b.fr*4+3,none⟩ (.slice r7.A2 r7.m r7.d)=wb;have HO:Hid (dD wb w.heap.size (.slice (some ⟨g0,0,none⟩) n lc) (us.set (aA x b.fr) r7) (wW x (iS x qs k) b)):=lH (by rw[<-hwb];exact HOA.o);have LK:Hid (Below w.heap.size w wb):=lH (by rw[<-hwb];exact HBn.o);have TE:Hid (aD wb gq 87 #[.bool xc.b1,.slice xc.A xc.n xc.c,.bool xc.b2,.slice xc.A2 xc.m xc.d]):=lH (by rw[<-hwb];exact HCn.o);have Z2:Hid (cY wb wb.heap.size (mS b) xc):=lH (by rw[<-hwb];exact HXn.o);clear hwb HBn HRr;generalize hus:us.set (aA x b.fr) r7=us2 at *;clear hus;have HRr:=lH (HR.o.bm LK.o);have w_:=HRr.o.r3;simp only at w_;obtain⟨fb,fo,hAf,yN,-⟩:=w_.2 (by omega);have f0:=(show oA wb wb.heap.size (some ⟨fb,fo,none⟩) x.brs.length (eV (FQ x)) by rw[<-hAf];exact w_).at_ (lC HA2.o);have yy:=(HG.o.bl LK.o).cell 3;have yl:=(HG.o.bl LK.o).lt;replace yy:wb.cell? ⟨g,3,none⟩=some (.slice (some ⟨fb,fo,none⟩) x.brs.length c3):=by rw[<-hAf];exact yy
   obtain⟨g1,x1,e,-,-,gl,gf,u0,u1,u2,u3,u4,-⟩:=HO.o.elem (j:=aA x b.to) (by rw[HLA.o];exact HJ2.o);injection e with e;injection e with e;subst e;have dE:=lH u4;have aCC:Hid (∀W2,Below wb.heap.size wb W2->∃x2:Rv,(∀o,W2.frozen? ⟨g0,o,none⟩=false)/\g0<W2.heap.size/\W2.cell? ⟨g0,aA x b.to*4,none⟩=some (.bool x2.b1)/\W2.cell? ⟨g0,aA x b.to*4+1,none⟩=some (.slice x2.A x2.n x2.c)/\W2.cell? ⟨g0,aA x b.to*4+2,none⟩=some (.bool x2.b2)/\W2.cell? ⟨g0,aA x b.to*4+3,none⟩=some (.slice x2.A2 x2.m x2.d)/\∀(v:Rv)(p:Rat),cY W2 W2.heap.size p v->dD (fY W2 g0 (aA x b.to) v) w.heap.size (.slice (some ⟨g0,0,none⟩) n lc) (us2.set (aA x b.to) v) ((wW x (iS x qs k) b).set (aA x b.to) p)):=lH fun W2 hb=>by
    obtain⟨g2,x2,e,-,-,b1,b2,b3,b4,b5,b6,-,b8⟩:=(HO.o.keep hb).elem (j:=aA x b.to) (by rw[HLA.o];exact HJ2.o);injection e with e;injection e with e;subst e;exact⟨x2,b2,b1,b3,b4,b5,b6,b8⟩
   obtain⟨z0,z1,z2,z3,zl⟩:=TE.o.b4;have tP:=HJ2.o;have iM:(k:Int)<(x.brs.length:Int):=by have:=rM.o;omega
   have pX:=lZ k;have FX:=oL k;have GS:=yD.o;have i1:((aA x b.to:Nat):Int)<(n:Int):=by omega
   have i10:(0:Int)<=((aA x b.to:Nat):Int):=by omega
   have i1n:((aA x b.to:Nat):Int).toNat=aA x b.to:=oL _;have nC:Hid (bM (vf (wW x (iS x qs k) b) (aA x b.to))+bM (mS b)+1<=35184372088832):=lH (by
    have h1:=Z_.o _ (cS (bZ (l:=wW x (iS x qs k) b) (i:=aA x b.to) (by rw[HLA.o];exact HJ2.o)));have h2:=u_ zS.o.2.2.2;omega)
   clear w_ hAf u4 GS tP;refine rS 21 (fun hHeld=>?_);simp only[oO,List.take_zero];refine d7 [0,1,2,3,4,5,6,7,8,9,10,11,12,13,14,15,16,17,18] ?_;clear f0 yy yl u0 u1 u2 u3 z0 z1 z2 z3 zl iM pX FX yN;have Z5:=lH (aH (Below.refl wb.heap.size wb));generalize wb.drew=v0 at *;refine bI 19 (fun K hK=>?_);go_simp;refine(B5 (dE.o.up Z5.o) (Z2.o.up Z5.o) nC.o).mono ?_;rintro e v1 ⟨bG,r7,rfl,h7⟩;have mM:Hid (Below wb.heap.size wb v1):=lH (Z5.o.tm bG);have H7:=lH h7;clear bG h7;go_simp;refine iJ hK mM.o (fun hHeld=>?_);clear hK K;refine d7 [20] ?_;refine fZ ?_;clear hHeld gl gf;obtain⟨x2,ff,fl,k0,k1,k2,k3,XE⟩:=aCC.o v1 mM.o;have HOn:=lH (XE r7 _ H7.o);have HBn:Hid (Below w.heap.size w (fY v1 g0 (aA x b.to) r7)):=lH (iU (v:=r7) (LK.o.tm mM.o) HGB.o);clear XE;have X6:=aCN.o;have aR:k<x.brs.length:=rM.o;(go_wp2_with fail);go_roundw
   case rel=>exact⟨k+1,_,rM.o,aM yC.o,by rw[jE.o];exact HOn.o,HBn.o⟩
   case measure=>exact p5.o
  ·have pP:k=x.brs.length:=by omega
   subst pP;have iM:¬((x.brs.length:Nat):Int)<(x.brs.length:Int):=by omega
   obtain⟨L2,lc2,e,FV,-⟩:=HO.o.rd;have d5:=nD.o x.brs.length lR;rw[d5] at e FV;injection e with e1 e2 e3;subst e1;subst e3;have PX:Hid (hO wr wr.heap.size L n (iS x qs x.brs.length)):=lH (by rw[yD.o];exact FV);clear FV e2;(go_wp2_with fail);refine(WJ g ⟨A0,n0,c0,A1,n1,c1,A2,x.brs.length,c2,A3,x.brs.length,c3,A4,x.brs.length,c4,A5,x.brs.length,c5,A6,n6,c6⟩ A7 c7 x cL.o h8 L n lc (iS x qs x.brs.length) wr (HG.o.bl HB.o) (HR.o.up HB.o) (HI.o.bm HB.o) PX.o yD.o (fun q hq=>eN (HZL.o _ lR q hq) (by decide))).mono ?_;rintro e w9 ⟨jQ,ga,vs,rfl,EE,hv⟩;have eU:=bX HB jQ;have HV9:=lH hv;have GM:=lH (eN HB.o.size EE);clear jQ hv EE;(go_wp2_with fail);go_ret;exact⟨eU.o,ga,vs,rfl,GM.o,HV9.o⟩
end
section
open Go.ChangeShapes Go.WideShapes Go.ChangeAt Go.RowKit Go.Maps
attribute [local go_sem ↓] aE
attribute [local go_sem] aJ aI aL aX
def m_(x:bP)(i:Nat):Int:=(mQ x).getD (fL x i) 0
def mD(x:bP)(ps:List Int):Nat->Int->Int
 | 0,_=>0
 | i+1,k=>mD x ps i k+if m_ x i=k then ps.getD i 0 else 0
theorem I7{x:bP}(n:Nat)(hz:∀i p,i<n->ps[i]?=some p->-100000<=p/\p<=100000)(hl:n<=ps.length):∀i:Nat,i<=n->∀k:Int,-(100000*(i:Int))<=mD x ps i k/\mD x ps i k<=100000*(i:Int)
 | 0,_,k=>by unfold mD;omega
 | i+1,hi,k=>by
  have ih:=I7 (x:=x) n hz hl i (by omega) k;have hp:-100000<=ps.getD i 0/\ps.getD i 0<=100000:=by
   obtain⟨p,hp⟩:∃p,ps[i]?=some p:=eG (by omega);rw[dQ,hp];exact hz i p (by omega) hp
  unfold mD;split<;>omega
def aFb(w:Wo)(b n:Nat)(x:bP)(ps:List Int)(i:Nat):Prop:=
 ∃D:DataW Unit,w.ownsMap Tryz.prog 3 (plainElem Tryz.prog 3) b n D/\IsMap D/\∀k:Int,D.atKey (.int .i64 k) (.lit (.int .i64 0))=.lit (.int .i64 (mD x ps i k))
theorem aHf(w:Wo):(zeroValue 3).run Tryz.prog w=.ok (.int .i64 0) w:=by kernel_rfl
theorem CX{D:DataW Unit}(h:w.ownsMap Tryz.prog 3 (plainElem Tryz.prog 3) b n D)(hb:Below w.heap.size w w'):w'.ownsMap Tryz.prog 3 (plainElem Tryz.prog 3) b n D:=h.kept (row:=none) ⟨hb.os,hb.tape,hb.output,hb.size,fun k hk _=>hb.block k hk⟩ (by simp)
theorem aA3{D:DataW Unit}(h2:IsMap D)(h3:∀k:Int,D.atKey (.int .i64 k) (.lit (.int .i64 0))=.lit (.int .i64 (mD x ps i k))){p:Int}(hp:ps[i]?=some p):IsMap (D.put (.int .i64 (m_ x i)) (.lit (.int .i64 (mD x ps i (m_ x i)+p))))/\∀k:Int,(D.put (.int .i64 (m_ x i)) (.lit (.int .i64 (mD x ps i (m_ x i)+p)))).atKey (.int .i64 k) (.lit (.int .i64 0))=.lit (.int .i64 (mD x ps (i+1) k)):=by
 refine⟨h2.put _ _,fun k=>?_⟩;have hg:ps.getD i 0=p:=by rw[dQ,hp];rfl
 unfold mD;rw[hg];by_cases e:m_ x i=k
 ·subst e
  rw[atKey_put_same h2 (k:=.int .i64 (m_ x i)) trivial,if_pos rfl]
  try (cases i<;>rfl)
 ·rw[atKey_put_other (fun e2=>e (by injection e2 with _ e2;exact e2.symm)),h3,if_neg e,Int.add_zero]
  try (cases i<;>rfl)
theorem vY{P:Program}{o:Oper}{a:Act}{w:Wo}{K:Act->World->Prop}{Q:Exit->Act->World->Prop}(m x v:Operand)(t:TypeId)(XG:o.op=Op.mapUpdate t m x v)(k e:TypeId)(Kd:Keyed P k)(ht:P.underlying t=some (.map k e))(R:Value->Option (DataW Unit×List MemPlace))(b n:Nat)(D:DataW Unit)(hm:a.eval m=.map (some b))(bB:w.ownsMap P k R b n D)(hn:n<maxLen)(key val:Value)(kl:Lit)(hx:a.eval x=key)(hv:a.eval v=val)(aEE:keyOf P k key=some kl)(d:DataW Unit)(ps:List MemPlace)(aLO:R val=some (d,ps))(h:∀w',w'.ownsMap P k R b (n+1) (D.put kl d)->w.grownBy w' (some b)->K (a.put o.dst undef) w'):o.wp P a w K Q:=by
 obtain⟨w',MV,r1,r2⟩:=bB.update Kd ht hn aEE aLO;unfold Oper.wp;simp[execOp,XG,hm,hx,hv,MV,Result.andThen];exact h _ r1 r2
def aPc(x:bP)(ps:List Int)(w:Wo)(e:Ending)(w':Wo):Prop:=Below w.heap.size w w'/\∃c:Int,e=.returned (.int .i64 c)/\(c=0->d8 x=0/\ps.length=x.nodes.length/\(∀p∈ps,-100000<=p/\p<=100000)/\∀k,mD x ps ps.length k=0)
theorem YF(h:cQ)(x:bP)(A:OA)(n c:Nat)(ps:List Int)(w:Wo)(r:cX w w.heap.size h x)(hp:oA w w.heap.size A n ps)(hn:n<=9223372036854775807):Calls Tryz.prog 40 #[.agg h.cells,.slice A n c] w (aPc x ps w):=by
 have K0:=vM w (.cells h.cells 29);obtain⟨HK,P0,HX,HP⟩:=gO K0 (aD.new w 29 h.cells) (r.up K0) (hp.bm K0);have B9:Hid (w.heap.size<=(w.alloc (.cells h.cells 29)).heap.size):=lH K0.size;have zQ:Hid (ps.length=n):=lH hp.len;clear K0 r hp;obtain⟨D0,r0,s0,D1,r1,s1,D2,r2,s2,D3,r3,s3,D4,r4,s4,D5,r5,s5⟩:=h;obtain⟨y0,y1,y2,y3,y4,y5,nf,nlt⟩:=cG P0.o;dsimp only at y0 y1 y2 y3 y4 y5;go_enter Tryz.func40,Tryz.ntmps40
 go_wp2_with fail
 clear y0 y1 y2 y3 y4 y5 nf nlt;generalize w.alloc (.cells (cQ.cells ⟨D0,r0,s0,D1,r1,s1,D2,r2,s2,D3,r3,s3,D4,r4,s4,D5,r5,s5⟩) 29)=W at *;refine(EW _ x W HX.o).mono ?_;rintro e w1 ⟨rfl,bG⟩;have cR:=lH (HK.o.trans (bG.mono B9.o));replace HX:=lH (HX.o.up bG);replace HP:=lH (HP.o.bm bG);replace P0:=lH (P0.o.bl bG);clear bG HK B9;by_cases M8:d8 x=0
 case neg=>
  have hB:(d8 x != 0)=true:=by simp[M8]
  have LJ:=lH M8;generalize d8 x=ck at *;(go_wp2_with fail);go_ret;exact⟨cR.o,_,rfl,fun e=>absurd e LJ.o⟩
 rw[M8];have LJ:=lH M8;have cL:=lH (fH M8);have yD:Hid (x.nodes.length=r0):=lH HX.o.r0.1;clear M8;obtain⟨y0,y1,y2,y3,y4,y5,nf,nlt⟩:=cG P0.o;dsimp only at y0 y1 y2 y3 y4 y5;by_cases hnr:n=r0
 case neg=>
  have hB:((n:Int) != (r0:Int))=true:=by simp;omega
  (go_wp2_with fail);go_ret;exact⟨cR.o,_,rfl,fun e=>absurd e (by decide)⟩
 subst hnr
 go_wp2_with fail
 refine(O4 ⟨D0,n,s0,D1,r1,s1,D2,r2,s2,D3,r3,s3,D4,r4,s4,D5,r5,s5⟩ x cL.o w1 HX.o).mono ?_;rintro e w2 ⟨bV,g1,g2,rfl,EF,iH,M4,yK⟩;have HNL:Hid (n<=24):=lH (by rw[<-yD.o];exact cL.o.l0);have hz:=vM w2 (.cells #[.slice (some ⟨g1,0,none⟩) n n,.slice (some ⟨g2,0,none⟩) (aN x) (aN x)] 49);obtain⟨P7,vP,fW⟩:=eR (aD.new w2 49 #[.slice (some ⟨g1,0,none⟩) n n,.slice (some ⟨g2,0,none⟩) (aN x) (aN x)]) (M4.bl hz) (yK.bl hz);have kS:=bV.tm hz;have gY:=bX cR kS;have KV:=lH (HP.o.bm kS);clear bV EF iH M4 yK hz kS cR HP HX P0 y0 y1 y2 y3 y4 y5 nf nlt
 go_upto_region 7 with fail
 generalize w2.alloc (.cells #[.slice (some ⟨g1,0,none⟩) n n,.slice (some ⟨g2,0,none⟩) (aN x) (aN x)] 49)=w3 at *;generalize w2.heap.size=p7 at *;have JE:=@run_makeMap Tryz.prog;have fP:=vM w3 (.map #[] 0);have HSM:Hid (∃m,aFb (w3.alloc (.map #[] 0)) w3.heap.size m x ps 0/\m<=0):=lH ⟨0,⟨.map [],World.ownsMap_made _ _ _ _,⟨[],rfl⟩,fun k=>rfl⟩,lR⟩;have HZ0:=lH fP;clear fP
 go_wp2_with fail
 clear JE;generalize w3.alloc (.map #[] 0)=wm at *;obtain⟨bm,rX⟩:∃bm,bm=w3.heap.size:=⟨_,rfl⟩;rw[<-rX] at HSM ⊢;have HBM:=lH rX;clear rX
 go_loopw [28] (fun v28 wr=>∃i:Nat,i<=n/\v28=.int .i64 i/\(∃m,aFb wr bm m x ps i/\m<=i)/\(∀j p,j<i->ps[j]?=some p->-100000<=p/\p<=100000)/\Below w3.heap.size w3 wr) (fun v28 _=>n-(intOf v28).toNat)
 case atStart=>exact⟨0,by omega,rfl,HSM.o,fun j p hj=>by omega,HZ0.o⟩
 case round=>
  clear HSM HZ0;obtain⟨i,hi,rfl,⟨m,hs,hmi⟩,mK,hw⟩:=hrel;obtain⟨PW,HZZ,kB⟩:=eR hs mK hw;clear hs mK hw;by_cases aR:i<n
  ·obtain⟨p,hp⟩:∃p,ps[i]?=some p:=eG (by have:=zQ.o;omega)
   have XF:=KV.o.below kB.o lR;obtain⟨pb,po,hA,hpb,-⟩:=XF.2 (by omega);subst hA;have cp:=XF.at_ hp;have tN:pb<wr.heap.size:=jJ hpb kB.o.size;have CZ:(i:Int)<(n:Int):=by omega
   have jL:=lZ i;have rH:=oL i;have HPI:=lH hp;have yC:=lN i;have p5:Hid (n-(i+1)<n-i):=lH (by omega);clear hp XF hpb;by_cases hlo:p < -100000
   ·go_wp2_with fail
    go_ret;exact⟨gY.o.tm kB.o,_,rfl,fun e=>absurd e (by decide)⟩
   by_cases hhi:100000<p
   ·go_wp2_with fail
    go_ret;exact⟨gY.o.tm kB.o,_,rfl,fun e=>absurd e (by decide)⟩
   obtain⟨FZ,hbn⟩:=zN cL.o (i:=i) (by rw[yD.o];exact aR);have FY:=AY cL.o;have XR:(mQ x)[fL x i]?=some (m_ x i):=by
    unfold m_;rw[dQ,jP (by omega)];rfl
   have M4:=vP.o.bl kB.o;have yK:=fW.o.bl kB.o;have h7:=P7.o.bl kB.o;have c1:=zI M4 FZ;have c2:=zI yK XR;have l1:=M4.lt;have l2:=yK.lt;obtain⟨t0,t1,tl⟩:=h7.b2;obtain⟨D,bB,yJ,qN⟩:=PW.o;obtain⟨zR,HMP,LL⟩:=eR bB yJ qN;have CB:Hid (keyOf Tryz.prog 3 (.int .i64 (m_ x i))=some (.int .i64 (m_ x i))):=lH (keyOf_int_mk Tryz.underlying3 (by
    have h1:=(l9 (tA cL.o).1).2 _ (cS XR);have h2:=(jD cL.o).2;have h3:=cL.o.l0;simp[Lit.wf,IntKind.min,IntKind.max,IntKind.signed,IntKind.bits];omega))
   have HLK:Hid (∀w',Below wr.heap.size wr w'->(Instr.lookup 156 (.map (some bm)) (.int .i64 (m_ x i)) false).run Tryz.prog w'=.ok (.int .i64 (mD x ps i (m_ x i))) w'):=lH fun w' hb=>by
    obtain⟨c,h1,h2,-⟩:=(CX zR.o hb).lookup_int mW Tryz.underlying156 Tryz.underlying3 (aHf _) CB.o;rw[LL.o] at h2;injection h2 with h2;injection h2 with _ h2;rw[h2];exact h1
   have HSB:Hid (-2500000<=mD x ps i (m_ x i)/\mD x ps i (m_ x i)<=2500000):=lH (by
    have h1:=I7 (x:=x) i HZZ.o (by have:=zQ.o;omega) i lR (m_ x i);have:=HNL.o;omega)
   have HPU:=lH (aA3 HMP.o LL.o HPI.o);have hwz:IntKind.i64.wrap (mD x ps i (m_ x i)+p)=mD x ps i (m_ x i)+p:=G6 (by have:=HSB.o;omega) (by have:=HSB.o;omega);have hbI:(fL x i:Int)<(aN x:Int):=by omega
   have R8:(0:Int)<=(fL x i:Int):=by omega
   have hbt:(fL x i:Int).toNat=fL x i:=oL _;clear FZ FY XR M4 yK h7 bB yJ qN;(go_upto_region 13 with fail);refine rS 13 (fun hHeld=>?_);simp only[oO,List.take_zero];refine d7 [0,1,2,3,4,5,6,7,8,9,11] ?_;refine gK 10 (v:=?_) ?_ hHeld ?_;rotate_left 1
   ·intro w' hSw;obtain⟨M_,-⟩:=ZN hSw;have hlk:=HLK.o w' hSw;go_simp<;>with_reducible rfl
   (try simp only[Act.put,iG,iF,iE]);refine d7 [12] ?_;have HOD:Hid (wr.drew.ownsMap Tryz.prog 3 (plainElem Tryz.prog 3) bm m D):=lH zR.o;have DJ:=lH (kB.o.trans ((aH (Below.refl wr.heap.size wr)).mono kB.o.size));generalize wr.drew=v0 at *;refine fZ ?_;refine vY (.tmp 39) (.tmp 48) (.tmp 51) 156 rfl 3 3 mW Tryz.underlying156 _ bm m D rfl HOD.o (by have:=HNL.o;unfold maxLen;omega) _ _ _ rfl rfl CB.o _ [] (plainElem_int Tryz.underlying3 (by have:=HSB.o;simp[Lit.wf,IntKind.min,IntKind.max,IntKind.signed,IntKind.bits];omega)) fun w5 xX hg5=>?_;have T0:Hid (aFb w5 bm (m+1) x ps (i+1)):=lH ⟨_,xX,HPU.o.1,HPU.o.2⟩;have dK:=lH (DJ.o.grown hg5 DJ.o.size (fun k hk=>by injection hk with hk;rw[<-hk,HBM.o];exact lR));have HZ5:Hid (∀j q,j<i+1->ps[j]?=some q->-100000<=q/\q<=100000):=lH fun j q hj hq=>by
    by_cases e:j=i
    ·subst e
     rw[HPI.o] at hq;injection hq with hq;omega
    ·exact HZZ.o j q (by omega) hq
   have hnl:=HNL.o;clear xX hg5 hHeld cp tN c1 c2 l1 l2 t0 t1 tl hwz;(go_wp2_with fail);go_roundw
   case rel=>exact⟨i+1,aR,aM yC.o,⟨m+1,T0.o,by omega⟩,HZ5.o,dK.o⟩
   case measure=>exact p5.o
  ·have RZ:n=i:=by omega
   subst RZ;have CZ:¬(n:Int)<(n:Int):=by omega
   have HZP:Hid (∀p∈ps,-100000<=p/\p<=100000):=lH fun p hp=>by
    obtain⟨j,hj⟩:=List.mem_iff_getElem?.1 hp;exact HZZ.o j p (by have:=(c_.1 hj).1;have:=zQ.o;omega) hj
   obtain⟨D,bB,yJ,qN⟩:=PW.o;have LL:=lH qN;have zR:=lH bB;clear yJ qN bB;obtain⟨w6,nA⟩:∃w6,w6=wr:=⟨_,rfl⟩;rw[<-nA] at zR kB ⊢;clear nA PW
   go_wp2_with (first
    | (at_range;refine wpList_range_own _ rfl _ 156 rfl 3 3 mW Tryz.underlying156 _ bm m D rfl zR.o ?_;intro w0 aHM XW hs0)
    | go_in)
   have vQ:Hid (Below w3.heap.size w3 w0):=lH (kB.o.grown XW kB.o.size (fun k hk=>by cases hk));have HRS:Hid (∃left zM,w0.ranges Tryz.prog 3 (plainElem Tryz.prog 3) bm w6.heap.size m D left zM/\(∀k:Int,left (.int .i64 k)=false->mD x ps n k=0)/\Below w3.heap.size w3 w0):=lH ⟨_,_,aHM,fun k hk=>by
    have h1:=LL.o k;rw[atKey_of_not_has hk] at h1;injection h1 with h1;injection h1 with _ h1;exact h1.symm,vQ.o⟩
   have HRB:Hid (w3.heap.size<=w6.heap.size):=lH kB.o.size;clear aHM XW hs0 vQ kB;generalize w6.heap.size=rb at *
   go_loopw [11] (fun _ wr=>∃(left:Lit->Bool)(zM:Nat),wr.ranges Tryz.prog 3 (plainElem Tryz.prog 3) bm rb m D left zM/\(∀k:Int,left (.int .i64 k)=false->mD x ps n k=0)/\Below w3.heap.size w3 wr) (fun _ wr=>wr.rangeLeft bm rb)
   case atStart=>exact HRS.o
   case round=>
    clear HRS;obtain⟨left,zM,hrg,hzk,hb⟩:=hrel;obtain⟨HZK,HB,HRG⟩:=eR hzk hb hrg;clear hzk hb hrg
    go_wp2_with (first
     | (at_next;refine wpList_next_ranges_ii _ rfl _ rfl 3 3 .i64 .i64 mW Tryz.underlying3 Tryz.underlying3 bm rb m _ _ _ rfl HRG.o ?_ ?_)
     | go_in)
    ·intro EH hl0
     have P5:=lH hl0;clear EH hl0;(go_wp2_with fail);go_ret;exact⟨gY.o.tm HB.o,0,rfl,fun _=>⟨LJ.o,zQ.o.trans yD.o.symm,HZP.o,fun k=>by rw[zQ.o];exact HZK.o k (P5.o _)⟩⟩
    ·intro k c w4 cnt1 hwx W8 hlx qN hrg1 aR EF pG hen
     have HC:Hid (c=mD x ps n k):=lH (by
      have h1:=LL.o k;rw[qN] at h1;injection h1 with h1;injection h1 with _ h1)
     have aKa:=lH hrg1;have rM:=lH aR;have bH:Hid (Below w3.heap.size w3 w4):=lH (HB.o.grown EF HB.o.size (fun j hj=>by injection hj with hj;rw[<-hj];exact HRB.o));clear qN hrg1 aR EF pG hwx W8 hlx;by_cases hc:c=0
     ·subst hc
      (go_wp2_with fail);go_roundw
      case rel=>exact⟨_,cnt1,aKa.o,fun k2 yK=>by
       by_cases e:k2=k
       ·subst e;exact HC.o.symm
       ·refine HZK.o k2 ?_
        have h1:Lit.sameKey (.int .i64 k2) (.int .i64 k)=false:=sameKey_ne (fun e2=>e (by injection e2));simpa[h1] using yK,bH.o⟩
      case measure=>rw[aKa.o.left_eq,HRG.o.left_eq];exact rM.o
     ·have hB:(c != 0)=true:=by simp[hc]
      (go_wp2_with fail);go_ret;exact⟨gY.o.tm bH.o,_,rfl,fun e=>absurd e (by decide)⟩
end
section
open Go.ChangeShapes Go.WideShapes Go.ChangeAt Go.RowKit
attribute [local go_sem ↓] aE
attribute [local go_sem] aJ aI aL aX
def gL(x:bP)(ps:List Int):List Rat:=FD x (iS x (pN x ps) x.brs.length)
structure E7 (x:bP) (ps:List Int):Prop where
 ck:d8 x=0
 len:ps.length=x.nodes.length
 rng:∀p∈ps,-100000<=p/\p<=100000
 bal:∀k,mD x ps ps.length k=0
 fa:∀q∈gL x ps,bJ q
 ff:∀q∈bN x (gL x ps),bJ q
def aI2(x:bP)(ps:List Int)(w:Wo)(e:Ending)(w':Wo):Prop:=Below w.heap.size w w'/\((∃c:Int,c≠0/\e=.returned (.tuple #[.agg #[.slice none 0 0,.slice none 0 0],.int .i64 c]))\/
 (E7 x ps/\∃A n c B m d,e=.returned (.tuple #[.agg #[.slice A n c,.slice B m d],.int .i64 0])/\(aW w' w'.heap.size A n ((gL x ps).map eH)/\n<=c/\c<=maxLen)/\aW w' w'.heap.size B m ((bN x (gL x ps)).map eH)/\m<=d/\d<=maxLen))
theorem QO(h:cQ)(x:bP)(h8:x.nodes.length<=8)(A:OA)(n c:Nat)(ps:List Int)(w:Wo)(r:cX w w.heap.size h x)(hp:oA w w.heap.size A n ps)(hn:n<=9223372036854775807)(ht:eY w):Calls Tryz.prog 17 #[.agg h.cells,.slice A n c] w (aI2 x ps w):=by
 have Q0:Below w.heap.size w ((w.alloc (.cells h.cells 29)).alloc V1):=(bA).alloc (by simp) _;have HW:=lH Q0;have P0:=lH ((aD.new w 29 h.cells).alloc V1);have P4:Hid (aD ((w.alloc (.cells h.cells 29)).alloc V1) (w.heap.size+1) 57 #[.slice none 0 0,.slice none 0 0]):=lH (aD.new_ (by simp));have B9:Hid (((w.alloc (.cells h.cells 29)).alloc V1).heap.size=w.heap.size+1+1):=lH (by simp);obtain⟨HPI,HX,HT,H8⟩:=gO (hp.bm Q0) (r.up Q0) (ht.up Q0) h8;have HPN:Hid (ps.length=n):=lH hp.len;clear Q0 hp r ht h8;obtain⟨D0,r0,s0,D1,r1,s1,D2,r2,s2,D3,r3,s3,D4,r4,s4,D5,r5,s5⟩:=h;go_enter Tryz.func17,Tryz.ntmps17
 go_upto_region 1 with fail
 generalize (w.alloc (.cells (cQ.cells ⟨D0,r0,s0,D1,r1,s1,D2,r2,s2,D3,r3,s3,D4,r4,s4,D5,r5,s5⟩) 29)).alloc V1=W at *;obtain⟨y0,y1,y2,y3,y4,y5,nf,nlt⟩:=cG P0.o;dsimp only at y0 y1 y2 y3 y4 y5
 go_wp2_with fail
 refine(YF _ x A n c ps W HX.o HPI.o hn).mono ?_;rintro e w1 ⟨bG,d,rfl,M8⟩;have cR:=lH bG;have P7:=lH (P4.o.bl cR.o);clear bG y0 y1 y2 y3 y4 y5 nf nlt;by_cases hd:d=0
 case neg=>
  have HD:=lH hd;have hdb:(d != 0)=true:=by simp[hd]
  clear M8 hd;obtain⟨z0,z1,zf,zl⟩:=P7.o.e2;(go_wp2_with fail);have p0:=(P7.o.set_ 0 (.slice none 0 0)).set_ 1 (.slice none 0 0);obtain⟨q0,q1⟩:=p0.a2;exact bodyPost_ret (v:=.tuple #[.agg #[.slice none 0 0,.slice none 0 0],.int .i64 d]) (by simp[results,Tryz.results17,go_sem,q0,q1]) rfl ⟨((HW.o.trans (cR.o.mono (by have:=B9.o;omega))).setCell (Nat.le_succ _) _).setCell (Nat.le_succ _) _,.inl ⟨d,HD.o,rfl⟩⟩
 subst hd;obtain⟨hk,d5,aHL,aII⟩:=M8 rfl;obtain⟨LJ,G0,HRG,kB,cL⟩:=mP hk d5 aHL aII (fH hk);obtain⟨dE,HP1,HXB⟩:=eR (HX.o.up cR.o) (HPI.o.bm cR.o) (P0.o.bl cR.o);clear M8 hk d5 aHL aII HX HPI P0;obtain⟨y0,y1,y2,y3,y4,y5,nf,nlt⟩:=cG HXB.o;dsimp only at y0 y1 y2 y3 y4 y5
 go_wp2_with fail
 refine(NE _ x cL.o H8.o w1 dE.o).mono ?_;rintro e w2 ⟨bV,g,m,A2,n2,c2,rfl,-,hg,hm,XT⟩;obtain⟨LA,hri⟩:=XT (aBz cL.o);subst LA;have dB:=bX cR bV;obtain⟨HG,HM,HRI,qV⟩:=gO hg hm hri (HP1.o.bm bV);clear bV hg hm hri XT cR dE HP1 HXB P7 y0 y1 y2 y3 y4 y5 nf nlt
 go_wp2_with fail
 refine(RI g m _ x cL.o A n c ps w2 HG.o HM.o qV.o (HPN.o.symm.trans G0.o) HRG.o).mono ?_;rintro e w3 ⟨eF,v3,us3,rfl,ho3⟩;obtain⟨A3,c3,nB,aHQ,-,-,-⟩:=ho3.rd;subst nB;have gY:=bX dB eF;obtain⟨GN,HM3,aJA,E5⟩:=gO (HG.o.bl eF) (HM.o.up eF) (HRI.o.bm eF) aHQ;have HZ3:Hid (∀q∈pN x ps,bM q<=2):=lH (WW HRG.o (by rw[G0.o];exact cL.o.l0));clear eF ho3 aHQ dB HG HM HRI qV
 go_wp2_with fail
 refine(RG g m A2 c2 x cL.o H8.o A3 _ c3 (pN x ps) w3 GN.o HM3.o aJA.o E5.o qM fun q hq=>eN (HZ3.o q hq) (by decide)).mono ?_;rw[<-gL];rintro e w4 ⟨h_,ga,vs,rfl,-,nF⟩;have bH:=bX gY h_;obtain⟨TC,HM4,LE⟩:=eR (GN.o.bl h_) (HM3.o.up h_) nF;have vR:Hid ((gL x ps).length=aN x):=lH IH;have HAZ:Hid (∀q∈gL x ps,bM q<=100000000000):=lH fun q hq=>by
  have h1:=FS cL.o (qs:=pN x ps) qM HZ3.o x.brs.length lR;have h2:=IG cL.o H8.o (lf:=iS x (pN x ps) x.brs.length) ((uM _ lR).trans qM) (fun q hq=>eN (h1 q hq) (by have:=cL.o.l2;omega)) _ lR q hq;exact eN h2 (by decide)
 have HAN:Hid (aN x<=1000000):=lH (by have:=(jD cL.o).2;have:=cL.o.l0;omega);clear h_ nF gY GN HM3 aJA E5
 go_wp2_with fail
 refine(qG _ _ _ (gL x ps) w4 LE.o.rdq (by rw[vR.o];exact HAN.o) (HT.o.up bH.o)).mono ?_;rintro e w5 ⟨eS,rG,wZ⟩;have dK:=bX bH eS;obtain⟨HG5,S9,DE⟩:=eR (TC.o.bl eS) (HM4.o.up eS) (LE.o.up eS);obtain⟨A6,n6,c6,z6,rfl,ht6⟩:∃A6 n6 c6 z6,e=.returned (.tuple #[.slice A6 n6 c6,.int .i64 z6])/\(((z6=2)/\¬∀q∈gL x ps,bJ q)\/(z6=0/\(∀q∈gL x ps,bJ q)/\aW w5 w5.heap.size A6 n6 ((gL x ps).map eH)/\n6<=c6/\c6<=maxLen)):=by
  by_cases hf:∀q∈gL x ps,bJ q
  ·obtain⟨A7,n7,c7,rfl,h1,h2,h3⟩:=rG hf
   exact⟨_,_,_,_,rfl,.inr ⟨rfl,hf,h1,h2,h3⟩⟩
  ·exact⟨_,_,_,_,wZ hf,.inl ⟨rfl,hf⟩⟩
 have HT6:=lH ht6;clear eS rG wZ ht6 bH TC HM4 LE
 go_wp2_with fail
 refine(SC g m _ x cL.o _ _ _ (gL x ps) w5 HG5.o S9.o DE.o.rdq vR.o HAZ.o).mono ?_;rintro e w6 ⟨eE,v6,us6,rfl,ho6⟩;obtain⟨A8,c8,hv8,aHP,-,-,-⟩:=ho6.rd;subst hv8;have d6:=bX dK eE;have HR8:=lH aHP;have HS6:Hid (w5.heap.size<=w6.heap.size/\Below w5.heap.size w5 w6):=lH ⟨eE.size,eE⟩;have DH:Hid ((bN x (gL x ps)).length<=1000000):=lH (by unfold bN;rw[kJ];have:=cL.o.l2;omega);clear eE ho6 aHP dK HG5 S9 DE
 go_wp2_with fail
 refine(qG A8 _ c8 (bN x (gL x ps)) w6 HR8.o DH.o (HT.o.up d6.o)).mono ?_;rintro e w7 ⟨fR,rG,wZ⟩;have gN:=bX d6 fR;have H57:=lH (HS6.o.2.trans (fR.mono HS6.o.1));obtain⟨A9,n9,c9,z9,rfl,ht9⟩:∃A9 n9 c9 z9,e=.returned (.tuple #[.slice A9 n9 c9,.int .i64 z9])/\(((z9=2)/\¬∀q∈bN x (gL x ps),bJ q)\/(z9=0/\(∀q∈bN x (gL x ps),bJ q)/\aW w7 w7.heap.size A9 n9 ((bN x (gL x ps)).map eH)/\n9<=c9/\c9<=maxLen)):=by
  by_cases hf:∀q∈bN x (gL x ps),bJ q
  ·obtain⟨A7,n7,c7,rfl,h1,h2,h3⟩:=rG hf
   exact⟨_,_,_,_,rfl,.inr ⟨rfl,hf,h1,h2,h3⟩⟩
  ·exact⟨_,_,_,_,wZ hf,.inl ⟨rfl,hf⟩⟩
 have HT9:=lH ht9;have P9:=lH (P4.o.bl gN.o);have vQ:=lH (HW.o.trans (gN.o.mono (by have:=B9.o;omega)));clear fR rG wZ ht9 d6 HS6 HR8;obtain⟨z0,z1,zf,zl⟩:=P9.o.e2;have bad:∀v:World,v=(w7.setCell ⟨w.heap.size+1,0,none⟩ (.slice none 0 0)).setCell ⟨w.heap.size+1,1,none⟩ (.slice none 0 0)->aI2 x ps w (.returned (.tuple #[.agg #[.slice none 0 0,.slice none 0 0],.int .i64 2])) v:=fun v e=>by
  subst e;exact⟨(vQ.o.setCell (Nat.le_succ _) _).setCell (Nat.le_succ _) _,.inl ⟨2,by decide,rfl⟩⟩
 have DJ:=lH bad;clear bad;rcases HT6.o with⟨rfl,-⟩ | ⟨rfl,hf6,CN,h61,h62⟩
 ·go_wp2_with fail
  have p1:=(P9.o.set_ 0 (.slice none 0 0)).set_ 1 (.slice none 0 0);obtain⟨q0,q1⟩:=p1.a2;exact bodyPost_ret (v:=.tuple #[.agg #[.slice none 0 0,.slice none 0 0],.int .i64 2]) (by simp[results,Tryz.results17,go_sem,q0,q1]) rfl (DJ.o _ rfl)
 rcases HT9.o with⟨rfl,-⟩ | ⟨rfl,hf9,hr9,h91,h92⟩
 ·clear CN hf6 h61 h62
  (go_wp2_with fail);have p1:=(P9.o.set_ 0 (.slice none 0 0)).set_ 1 (.slice none 0 0);obtain⟨q0,q1⟩:=p1.a2;exact bodyPost_ret (v:=.tuple #[.agg #[.slice none 0 0,.slice none 0 0],.int .i64 2]) (by simp[results,Tryz.results17,go_sem,q0,q1]) rfl (DJ.o _ rfl)
 obtain⟨HR6,HR9,HF6,HF9⟩:=gO (CN.bm H57.o) hr9 hf6 hf9;clear CN hr9 hf6 hf9 HT6 HT9 DJ
 go_wp2_with fail
 have k1:=P9.o.set_ 0 (.slice A6 n6 c6);have p1:=k1.set_ 1 (.slice A9 n9 c9);obtain⟨q0,q1⟩:=p1.a2;have a6:=(HR6.o.keepN (i:=0) (u:=.slice A6 n6 c6) P9.o yY rfl).keepN (i:=1) (u:=.slice A9 n9 c9) k1 yY rfl;have a9:=(HR9.o.keepN (i:=0) (u:=.slice A6 n6 c6) P9.o yY rfl).keepN (i:=1) (u:=.slice A9 n9 c9) k1 yY rfl;exact bodyPost_ret (v:=.tuple #[.agg #[.slice A6 n6 c6,.slice A9 n9 c9],.int .i64 0]) (by simp[results,Tryz.results17,go_sem,q0,q1]) rfl ⟨(vQ.o.setCell (Nat.le_succ _) _).setCell (Nat.le_succ _) _,.inr ⟨⟨LJ.o,G0.o,HRG.o,kB.o,HF6.o,HF9.o⟩,_,_,_,_,_,_,rfl,⟨a6,h61,h62⟩,a9,h91,h92⟩⟩
end
section
section
variable {x:bP}
def BR(x:bP)(j:Nat):List Br->Rat
 | []=>0
 | b::r=>two (aA x b.fr) (aA x b.to) j*mS b+BR x j r
theorem ift(a j:Nat)(t:Rat):(if a=j then t else 0)=(if j=a then 1 else 0)*t:=by
 by_cases h:a=j
 ·rw[if_pos h,if_pos h.symm,Rat.one_mul]
 ·rw[if_neg h,if_neg fun e=>h e.symm,Rat.zero_mul]
theorem JN(al:List Rat)(j:Nat):∀bs:List Br,sY x al j bs=vE x (vf al) j bs+BR x j bs
 | []=>(Rat.add_zero 0).symm
 | b::r=>by
  show((if aA x b.fr=j then fS x al b else 0)+-(if aA x b.to=j then fS x al b else 0))+sY x al j r=(gD b*(two (aA x b.fr) (aA x b.to) j*(vf al (aA x b.fr)-vf al (aA x b.to)))+vE x (vf al) j r)+(two (aA x b.fr) (aA x b.to) j*mS b+BR x j r);rw[JN al j r];unfold fS two;rw[ift (aA x b.fr) j,ift (aA x b.to) j];generalize (if j=aA x b.fr then(1:Rat) else 0)=p;generalize (if j=aA x b.to then(1:Rat) else 0)=q;grind
theorem J7(j:Nat):∀l m:List Br,BR x j (l++m)=BR x j l+BR x j m
 | [],m=>(Rat.zero_add _).symm
 | b::r,m=>by
  show two (aA x b.fr) (aA x b.to) j*mS b+BR x j (r++m)=two (aA x b.fr) (aA x b.to) j*mS b+BR x j r+BR x j m;rw[J7 j r m];grind
theorem WM(ok:cH x){qs:List Rat}(hl:qs.length=aN x)(j:Nat):∀k:Nat,k<=x.brs.length->vf (iS x qs k) j=vf qs j-BR x j (x.brs.take k)
 | 0,_=>by
  rw[uK,List.take_zero];show _=vf qs j-0;grind
 | k+1,h=>by
  obtain⟨b,hb⟩:∃b,x.brs[k]?=some b:=eG (by omega);have rX:=ok.br b (cS hb);have h1:=uM (x:=x) (qs:=qs) k (by omega);have hu:=(bT ok rX.1).2.1;have hv:=(bT ok rX.2.1).2.1;have ih:=WM ok hl j k (by omega);rw[uL hb];unfold MN;rw[zX (by rw[uN,h1,hl];exact hv)];unfold wW;rw[zX (by rw[h1,hl];exact hu),zX (by rw[h1,hl];exact hu),kF hb,J7];show _=vf qs j-(BR x j (x.brs.take k)+(two (aA x b.fr) (aA x b.to) j*mS b+0));unfold two;by_cases h2:j=aA x b.to
  ·by_cases h3:j=aA x b.fr
   ·have h4:aA x b.to=aA x b.fr:=h2.symm.trans h3
    rw[if_pos h2,if_pos h4,if_pos h3,<-h3,ih];simp only[<-h2,if_true];grind
   ·have h4:¬aA x b.to=aA x b.fr:=fun e=>h3 (h2.trans e)
    rw[if_pos h2,if_neg h4,if_neg h3,<-h2,ih];simp only[if_true];grind
  ·by_cases h3:j=aA x b.fr
   ·rw[if_neg h2,if_pos h3,<-h3,ih]
    simp only[if_true,h2,if_false];grind
   ·rw[if_neg h2,if_neg h3,ih]
    simp only[h2,h3,if_false];grind
theorem UZ(ok:cH x){lf:List Rat}(hi:i<(aG x).length):pM x lf i=o0 (kR x) (vf (mN x lf)) i:=by
 unfold pM o0;rw[m7 ok,<-FR ok];have hh:((rT x).getD i []).length=(aG x).length:=by
  have h:=(qL ok);rw[dQ,jP (by rw[h.1];exact hi)];exact h.2 _ (List.getElem_mem _)
 exact JW hh (by unfold mN;rw[kJ])
theorem EX{E F:Nat->Rat}(ok:cH x)(h:∀u,u<aN x->E u=F u):∀bs:List Br,(∀b∈bs,b∈x.brs)->vE x E j bs=vE x F j bs
 | [],_=>rfl
 | b::r,hb=>by
  have rX:=ok.br b (hb b List.mem_cons_self);unfold vE;rw[EX ok h r (fun a ha=>hb a (List.mem_cons_of_mem _ ha)),h _ (bT ok rX.1).2.1,h _ (bT ok rX.2.1).2.1]
theorem aA7{lf:List Rat}{u:Nat}(hu:u<aN x):vf (FD x lf) u=pS (aG x) (pM x lf) u:=by
 unfold FD;rw[aBD hu];unfold ext;cases hf:dG (dN x) u with
 | false=>rw[IZ _ hf];rfl
 | true=>exact(KL (pM x lf) (oV hf hu)).symm
theorem WU(ok:cH x)(hl:qs.length=aN x){r f:Nat}(hr:(aG x)[r]?=some f):sY x (FD x (iS x qs x.brs.length)) f x.brs=vf qs f:=by
 have RV:=(c_.1 hr).1;rw[JN,EX ok (fun u hu=>aA7 hu) x.brs (fun b hb=>hb),<-PP ok _ hr];obtain⟨a,ha⟩:∃a,(kR x)[r]?=some a:=eG (by rw[m7 ok];exact RV);have h1:=aBE (zO ok) (PO ok) (vf (mN x (iS x qs x.brs.length))) ha;rw[m7 ok] at h1;have h2:a_ (aG x).length (vf ((kR x).getD r [])) (pM x (iS x qs x.brs.length))=vf (mN x (iS x qs x.brs.length)) r:=by
  rw[dQ,ha,<-h1];unfold a_;exact aO fun i hi=>by rw[UZ ok hi];rfl
 have h3:vf (mN x (iS x qs x.brs.length)) r=vf (iS x qs x.brs.length) f:=sA (by unfold mN;rw[pL,hr];rfl);rw[h2,h3,WM ok hl f _ lR,oP lR];grind
def wI(x:bP)(k:Int)(j:Nat):Rat:=if(mQ x).getD j 0=k then 1 else 0
theorem I8(ok:cH x)(al:List Rat)(k:Int):∀bs:List Br,(∀b∈bs,b∈x.brs)->aP (aN x) (fun j=>wI x k j*sY x al j bs)=0
 | [],_=>cD fun j _=>Rat.mul_zero _
 | b::r,hb=>by
  have X1:=hb b List.mem_cons_self;have rX:=ok.br b X1;have hu:=(bT ok rX.1).2.1;have hv:=(bT ok rX.2.1).2.1;have he:wI x k (aA x b.fr)=wI x k (aA x b.to):=by
   unfold wI;have h:=(MB (tA ok).1).1 (aA x b.fr,aA x b.to) (List.mem_map.2 ⟨b,X1,rfl⟩);have h':(mQ x).getD (aA x b.fr) 0=(mQ x).getD (aA x b.to) 0:=h;rw[h']
  have h1:=I8 ok al k r fun a ha=>hb a (List.mem_cons_of_mem _ ha);have h2:=OD hu hv (wI x k);have h3:aP (aN x) (fun j=>fS x al b*(two (aA x b.fr) (aA x b.to) j*wI x k j))=0:=by
   rw[eC,h2,he];grind
  have h4:aP (aN x) (fun j=>wI x k j*sY x al j (b::r))=aP (aN x) (fun j=>fS x al b*(two (aA x b.fr) (aA x b.to) j*wI x k j)+wI x k j*sY x al j r):=aO fun j _=>by
   show wI x k j*(((if aA x b.fr=j then fS x al b else 0)+-(if aA x b.to=j then fS x al b else 0))+sY x al j r)=_;rw[ift (aA x b.fr) j,ift (aA x b.to) j];unfold two;generalize (if j=aA x b.fr then(1:Rat) else 0)=p;generalize (if j=aA x b.to then(1:Rat) else 0)=q;grind
  rw[h4,cM,h3,h1,Rat.add_zero]
theorem I9(ok:cH x)(hl:ps.length<=x.nodes.length)(k:Int):∀i:Nat,i<=ps.length->aP (aN x) (fun j=>wI x k j*((kA x ps i j:Int):Rat))=((mD x ps i k:Int):Rat)
 | 0,_=>cD fun j _=>Rat.mul_zero _
 | i+1,h=>by
  have ih:=I9 ok hl k i (by omega);obtain⟨q,hq⟩:∃q,ps.getD i 0=q:=⟨_,rfl⟩;have hbi:fL x i<aN x:=(zN ok (by omega)).2;have e:aP (aN x) (fun j=>wI x k j*((kA x ps (i+1) j:Int):Rat))=aP (aN x) (fun j=>wI x k j*((kA x ps i j:Int):Rat)+wI x k j*(if fL x i=j then((q:Int):Rat) else 0)):=aO fun j _=>by
   show wI x k j*((kA x ps i j+(if fL x i=j then ps.getD i 0 else 0):Int):Rat)=_;rw[hq,<-Rat.mul_add];congr 1
   by_cases h2:fL x i=j
   ·rw[if_pos h2,if_pos h2,Rat.intCast_add]
   ·rw[if_neg h2,if_neg h2,Int.add_zero,Rat.add_zero]
  rw[e,cM,ih,dR (k:=fL x i) hbi (fun j _ cK=>by rw[if_neg (fun e=>cK e.symm),Rat.mul_zero]),if_pos rfl];show _=((mD x ps i k+(if m_ x i=k then ps.getD i 0 else 0):Int):Rat);rw[hq,Rat.intCast_add];congr 1
  show(if m_ x i=k then(1:Rat) else 0)*_=_;by_cases h2:m_ x i=k
  ·rw[if_pos h2,if_pos h2,Rat.one_mul]
  ·rw[if_neg h2,if_neg h2,Rat.zero_mul];rfl
theorem YD(hi:dG (dN x) i=false)(hj:dG (dN x) j=false)(h:(dN x).getD i 0=(dN x).getD j 0):i=j:=by
 have key:∀a b:Nat,dG (dN x) b=false->(dN x).getD a 0=(dN x).getD b 0->¬a<b:=fun a b hb iI aR=>by
  unfold dG aBw at hb;rw[Bool.not_not] at hb;have:=List.any_eq_false.1 hb a (List.mem_range.2 aR);unfold FE at this;rw[iI] at this;simp at this
 have h1:=key i j hj h;have h2:=key j i hi h.symm;omega
theorem kcl(F:E7 x ps)(hj:j<aN x):sY x (gL x ps) j x.brs=((kA x ps ps.length j:Int):Rat):=by
 have ok:=fH F.ck;have aDk:∀i,i<aN x->dG (dN x) i=true->sY x (gL x ps) i x.brs=((kA x ps ps.length i:Int):Rat):=fun i hi hf=>by
  rw[<-aBG hi];exact WU ok qM (oV hf hi)
 cases hf:dG (dN x) j with
 | true=>exact aDk j hj hf
 | false=>
  have h1:=I8 ok (gL x ps) ((mQ x).getD j 0) x.brs fun b hb=>hb;have h2:=I9 ok (ps:=ps) (Nat.le_of_eq F.len) ((mQ x).getD j 0) ps.length lR;rw[F.bal] at h2;have h3:=wB (fun i=>wI x ((mQ x).getD j 0) i*sY x (gL x ps) i x.brs) (fun i=>wI x ((mQ x).getD j 0) i*((kA x ps ps.length i:Int):Rat)) (aN x);rw[h1,h2,dR hj (fun i hi cK=>by
   unfold wI;split
   ·rename_i he
    cases hfi:dG (dN x) i with
    | true=>rw[aDk i hi hfi];grind
    | false=>exact absurd (YD hfi hf ((aEa ok i j).1 he)) cK
   ·grind)] at h3
  unfold wI at h3;rw[if_pos rfl] at h3;have h4:((0:Int):Rat)=0:=rfl;rw[h4] at h3;grind
end
end
section
open Go.ChangeShapes Go.WideShapes Go.ChangeAt Go.RowKit
attribute [local go_sem ↓] aE
attribute [local go_sem] aJ aI aL aX
structure Cf (w:Wo) (gc:Nat) (vs:List Rv) (q:List Rat):Prop where
 row:∃cs,aD w gc 87 cs/\cs.toList.take (q.length*4)=eM vs
 len:vs.length=q.length
 ok:iW w vs q
section
variable {w w':Wo} {gc:Nat} {vs:List Rv} {q:List Rat}
theorem Cf.up(f:Cf w gc vs q)(hb:Below w.heap.size w w'):Cf w' gc vs q:=by
 obtain⟨cs,h1,h2⟩:=f.row;exact⟨⟨cs,h1.bl hb,h2⟩,f.len,f.ok.up hb⟩
theorem Cf.elem(f:Cf w gc vs q)(hj:j<q.length):∃x,vs[j]?=some x/\w.cell? ⟨gc,j*4,none⟩=some (.bool x.b1)/\w.cell? ⟨gc,j*4+1,none⟩=some (.slice x.A x.n x.c)/\w.cell? ⟨gc,j*4+2,none⟩=some (.bool x.b2)/\w.cell? ⟨gc,j*4+3,none⟩=some (.slice x.A2 x.m x.d)/\gc<w.heap.size/\(∀o,w.frozen? ⟨gc,o,none⟩=false):=by
 obtain⟨cs,h1,h2⟩:=f.row;obtain⟨x,hx⟩:∃x,vs[j]?=some x:=eG (by rw[f.len];exact hj);obtain⟨c0,c1,c2,c3⟩:=h1.row_cell h2 hx;exact⟨x,hx,c0,c1,c2,c3,h1.lt,h1.frozen⟩
theorem Cf.keep(f:Cf w gc vs q)(hj:j<q.length){x y:Rv}{p:Rat}(hy:cY w w.heap.size p y):cY (fY w gc j x) (fY w gc j x).heap.size p y:=by
 obtain⟨cs,h1,h2⟩:=f.row;obtain⟨x0,hx⟩:∃x,vs[j]?=some x:=eG (by rw[f.len];exact hj);exact cY.keep4 hy x h1 h2 hx
theorem Cf.put(f:Cf w gc vs q)(hj:j<q.length){x:Rv}{p:Rat}(hx:cY w w.heap.size p x):Cf (fY w gc j x) gc (vs.set j x) (q.set j p):=by
 obtain⟨cs,h1,h2⟩:=f.row;obtain⟨cs',k1,k2⟩:=h1.row_put x h2 f.len hj;refine⟨⟨cs',k1,by rw[jI];exact k2⟩,by simp[f.len],fun i p' y hp hy=>?_⟩;rw[List.getElem?_set] at hp hy;by_cases rV:j=i
 ·subst rV
  rw[if_pos rfl,if_pos hj] at hp;rw[if_pos rfl,if_pos (by rw[f.len];exact hj)] at hy;injection hp with hp;injection hy with hy;subst hp;subst hy;exact f.keep hj hx
 ·rw[if_neg rV] at hp hy
  exact f.keep hj (f.ok i p' y hp hy)
theorem Cf.rdq(f:Cf w gc vs q):hO w w.heap.size (some ⟨gc,0,none⟩) q.length q:=by
 obtain⟨cs,h1,h2⟩:=f.row;refine⟨vs,f.len,rfl,⟨by rw[dI,f.len],fun hn=>⟨gc,0,rfl,h1.lt,fun i v hv=>?_⟩⟩,f.ok⟩;rw[Nat.zero_add,h1.cell];rw[<-h2] at hv;rw[List.getElem?_take] at hv;split at hv
 ·rwa[Array.getElem?_toList] at hv
 ·cases hv
end
structure aFd (w:Wo) (p7 p8 p9 g:Nat) (m:jN) (y:Value) (x:bP) (A:OA) (n c:Nat) (M:List (List Rat)):Prop where
 b7:aD w p7 95 #[.pointer (some ⟨g,0,none⟩)]
 b8:aD w p8 129 #[.slice A n c]
 b9:aD w p9 3 #[.int .i64 (aHj M:Int)]
 md:aD w g 131 (m.cells y)
 rd:fN w w.heap.size m x
 rm:lV w w.heap.size A n M
theorem aFd.up{p7 p8 p9:Nat}{m:jN}{y:Value}{M:List (List Rat)}(h:aFd w p7 p8 p9 g m y x A n c M)(hb:Below w.heap.size w w'):aFd w' p7 p8 p9 g m y x A n c M:=
 ⟨h.b7.bl hb,h.b8.bl hb,h.b9.bl hb,h.md.bl hb,h.rd.up hb,h.rm.up hb⟩
end
section
open Go.ChangeShapes Go.WideShapes Go.ChangeAt Go.RowKit Go.Joins
attribute [local go_sem ↓] aE
attribute [local go_sem] aJ aI aL aX
def oE(w:Wo)(base:Nat)(v:Value)(ms:List Mi):Prop:=w.ownsRow base 80 4 v ms.length (ms.flatMap Mi.cells)
theorem oE.keep(h:oE w base v ms)(hb:Below w.heap.size w w'):oE w' base v ms:=AN h hb
theorem oE.mono{base':Nat}(h:oE w base v ms)(hb:base'<=base):oE w base' v ms:=
 ⟨h.1,h.2.imp id fun⟨g,cap,cur,h1,h2,h3⟩=>⟨g,cap,cur,h1,eN hb h2,h3⟩⟩
theorem oE.rd(h:oE w base v ms):∃A c,v=.slice A ms.length c/\lJ w w.heap.size A ms.length ms/\ms.length<=c/\c<=maxLen:=by
 obtain⟨A,c,hv,hr,h1,h2,_⟩:=wM h;exact⟨A,c,hv,⟨rfl,hr⟩,h1,h2⟩
section
variable {o:Oper} {a:Act} {w:Wo} {Q:Exit->Act->World->Prop}
end
theorem lJ.take{m:Nat}(h:lJ w B A n xs)(hm:m<=n):lJ w B A m (xs.take m):=by
 obtain⟨h1,h2,h3⟩:=h;refine⟨by rw[kC,h1];omega,⟨?_,fun h0=>?_⟩⟩
 ·rw[nU Mi.len,kC,h1,Nat.min_eq_left hm]
 ·obtain⟨b,off,e,aR,hc⟩:=h3 (by omega)
  refine⟨b,off,e,aR,fun j u hu=>hc j u ?_⟩;have e2:xs.flatMap Mi.cells=(xs.take m).flatMap Mi.cells++(xs.drop m).flatMap Mi.cells:=by rw[<-List.flatMap_append,List.take_append_drop]
  rw[e2,yV (c_.1 hu).1];exact hu
theorem lJ.drop{off:Nat}(h:lJ w B (some ⟨b,off,none⟩) n xs)(hi:i<=n):lJ w B (some ⟨b,off+i*4,none⟩) (n-i) (xs.drop i):=by
 obtain⟨h1,h2,h3⟩:=h;refine⟨by rw[G5,h1],⟨?_,fun h0=>?_⟩⟩
 ·rw[nU Mi.len,G5,h1]
 ·obtain⟨b',off',e,aR,hc⟩:=h3 (by omega)
  injection e with e;injection e with e1 e2;subst e1;subst e2;refine⟨b,off+i*4,rfl,aR,fun j u hu=>?_⟩;have e2:xs.flatMap Mi.cells=(xs.take i).flatMap Mi.cells++(xs.drop i).flatMap Mi.cells:=by rw[<-List.flatMap_append,List.take_append_drop]
  have hl:((xs.take i).flatMap Mi.cells).length=i*4:=by rw[nU Mi.len,kC,h1,Nat.min_eq_left hi]
  have:=hc (i*4+j) u (by rw[e2,DK (by omega),hl,Nat.add_sub_cancel_left];exact hu);rwa[<-Nat.add_assoc] at this
theorem lJ.tail{off:Nat}(h:lJ w B (some ⟨b,off,none⟩) n xs)(hc:n<=c)(hi:i<=n):lJ w B (if c=i then some ⟨b,off,none⟩ else some ⟨b,off+i*4,none⟩) (n-i) (xs.drop i):=by
 have h2:=h.drop hi;by_cases X0:c=i
 ·refine⟨h2.1,h2.2.1,fun h0=>by omega⟩
 ·rw[if_neg X0];exact h2
end
section
open Go.ChangeShapes Go.WideShapes Go.ChangeAt Go.RowKit
attribute [local go_sem ↓] aE
attribute [local go_sem] aJ aI aL aX
structure ArS (S:Nat->Nat->Bool) (nb b:Nat) (L:List Int):Prop where
 len:L.length=nb
 at_:∀k,k<b->L.getD k 0=((xG S b).1.getD k 0:Nat)
theorem ArS.start(S:Nat->Nat->Bool)(nb:Nat):ArS S nb 0 (List.replicate nb 0):=⟨pV,fun k h=>by omega⟩
theorem ArS.old{S:Nat->Nat->Bool}{nb a:Nat}{L:List Int}(h:ArS S nb b L)(hb:b<nb)(hf:(List.range b).find? (fun a=>S a b)=some a):ArS S nb (b+1) (L.set b (L.getD a 0)):=by
 have ha:a<b:=by simpa using List.mem_of_find?_eq_some hf
 refine⟨by rw[jI];exact h.len,fun k hk=>?_⟩;have e:(xG S (b+1)).1=(xG S b).1++[(xG S b).1.getD a 0]:=by rw[BY,hf]
 have hl:=GB S b;rw[e,dQ,dQ (l:=(xG S b).1++_),List.getElem?_set];by_cases M3:k=b
 ·subst M3
  rw[if_pos rfl,if_pos (by rw[h.len];exact hb),DK (by omega),hl,Nat.sub_self,h.at_ a ha];rfl
 ·rw[if_neg (fun e=>M3 e.symm),yV (by omega),<-dQ,<-dQ]
  exact h.at_ k (by omega)
theorem ArS.new{S:Nat->Nat->Bool}{nb:Nat}{L:List Int}(h:ArS S nb b L)(hb:b<nb)(hf:(List.range b).find? (fun a=>S a b)=none):ArS S nb (b+1) (L.set b ((xG S b).2:Nat))/\(xG S (b+1)).2=(xG S b).2+1:=by
 have e:xG S (b+1)=((xG S b).1++[(xG S b).2],(xG S b).2+1):=by rw[BY,hf]
 refine⟨⟨by rw[jI];exact h.len,fun k hk=>?_⟩,by rw[e]⟩;have hl:=GB S b;rw[e,dQ,dQ (l:=(xG S b).1++_),List.getElem?_set];by_cases M3:k=b
 ·subst M3
  rw[if_pos rfl,if_pos (by rw[h.len];exact hb),DK (by omega),hl,Nat.sub_self];rfl
 ·rw[if_neg (fun e=>M3 e.symm),yV (by omega),<-dQ,<-dQ]
  exact h.at_ k (by omega)
theorem aD6(w:Wo)(B:Nat):tD w B none 0 []:=⟨rfl,⟨rfl,fun h=>absurd h (by decide)⟩,fun v hv=>by cases hv⟩
theorem bO.mono{S:Value->Prop}{base' size:Nat}{xs:List Value}(h:bO S w base e size v n xs)(hb:base'<=base):bO S w base' e size v n xs:=
 ⟨h.1,h.2.imp id fun⟨g,cap,cur,h1,h2,h3⟩=>⟨g,cap,cur,h1,eN hb h2,h3⟩⟩
theorem hO.keepsI(h:hO w w.heap.size A n qs)(k:dZ yB base e w w'):hO w' w'.heap.size A n qs:=by
 obtain⟨vs,h1,h2,h3,h4⟩:=h;refine⟨vs,h1,h2,⟨h3.1,fun hn=>?_⟩,fun i q v hq hv=>(h4 i q v hq hv).keepsI k⟩;obtain⟨b,off,e,aR,hc⟩:=h3.2 hn;refine⟨b,off,e,jJ aR k.size,fun j u hu=>k.cell _ _ (hc j u hu) ?_⟩;rintro⟨y,hy⟩;exact(tU vs u (cS hu)).2 _ _ hy
theorem lV.keepsI{M:List (List Rat)}(h:lV w w.heap.size A n M)(k:dZ yB base e w w'):lV w' w'.heap.size A n M:=by
 obtain⟨hs,h1,h2,h3,h4⟩:=h;refine⟨hs,h1,h2,⟨h3.1,fun hn=>?_⟩,fun i a q hh hq=>⟨(h4 i a q hh hq).1.keepsI k,(h4 i a q hh hq).2⟩⟩;obtain⟨b,off,e,aR,hc⟩:=h3.2 hn;refine⟨b,off,e,jJ aR k.size,fun j u hu=>k.cell _ _ (hc j u hu) ?_⟩;rintro⟨y,hy⟩;exact(aEM hs u (cS hu)).2 _ _ hy
theorem JO{α:Type}{el:α->List Value}{sz:Nat}(d5:∀a,(el a).length=sz):∀(xs:List α)(i:Nat)(x y:α)(j:Nat)(u:Value),xs[i]?=some x->j<sz->el y=(el x).set j u->(xs.set i y).flatMap el=(xs.flatMap el).set (i*sz+j) u
 | [],i,x,y,j,u,h,_,_=>by simp at h
 | a::r,0,x,y,j,u,h,hj,he=>by
  simp at h;subst h;simp only[List.set_cons_zero,List.flatMap_cons,he,Nat.zero_mul,Nat.zero_add];rw[List.set_append_left _ _ (by rw[d5];exact hj)]
 | a::r,i+1,x,y,j,u,h,hj,he=>by
  simp only[List.set_cons_succ,List.flatMap_cons];rw[JO d5 r i x y j u (by simpa using h) hj he,List.set_append_right _ _ (by rw[d5,Nat.succ_mul];omega),d5];congr 2
  rw[Nat.succ_mul];omega
section
variable {w:Wo} {base n c i:Nat} {A:OA} {ms:List Mi} {m:Mi}
theorem oE.at_(h:oE w base (.slice A n c) ms)(hm:ms[i]?=some m):∃g,A=some ⟨g,0,none⟩/\base<=g/\g<w.heap.size/\w.cell? ⟨g,i*4,none⟩=some (.int .i64 m.kind)/\w.cell? ⟨g,i*4+1,none⟩=some (.string m.name)/\w.cell? ⟨g,i*4+2,none⟩=some (.string m.txt)/\w.cell? ⟨g,i*4+3,none⟩=some (.int .i64 m.wt)/\(∀o,w.frozen? ⟨g,o,none⟩=false)/\
    ∀(j:Nat)(u:Value)(m':Mi),j<4->Mi.cells m'=(Mi.cells m).set j u->oE (w.setCell ⟨g,i*4+j,none⟩ u) base (.slice A n c) (ms.set i m'):=by
 have hi:=(c_.1 hm).1;unfold oE at h;rcases h.2 with⟨h1,h2⟩ | ⟨g,cap,cur,h1,h2,h3,h4,h5,h6,h7⟩
 ·omega
 ·have hb:aD w g 80 cur:=h3
  have key:∀j y,j<4->(Mi.cells m)[j]?=some y->w.cell? ⟨g,i*4+j,none⟩=some y:=fun j y hj hy=>by
   rw[hb.cell];have:=iN Mi.len ms i m hm j hj;rw[hy,<-h7,List.getElem?_take] at this;split at this
   ·rwa[Array.getElem?_toList] at this
   ·cases this
  injection h1 with e1 e2 e3;refine⟨g,e1,h2,hb.lt,key 0 _ (by decide) rfl,key 1 _ (by decide) rfl,key 2 _ (by decide) rfl,key 3 _ (by decide) rfl,fun o=>hb.frozen o,fun j u m' hj he=>?_⟩;unfold oE;rw[jI,JO Mi.len ms i m m' j u hm hj he];refine⟨by rw[jI];exact h.1,.inr ⟨g,cap,cur.setIfInBounds (i*4+j) u,by rw[e1,e2,e3],h2,hb.set_ _ u,h4,h5,by rw[Array.size_setIfInBounds];exact h6,?_⟩⟩;rw[Array.toList_setIfInBounds,iK _ _ _ _ (by omega),h7]
end
end
section
open Go.ChangeShapes Go.WideShapes Go.ChangeAt Go.RowKit
def aPf(_:Value):Prop:=True
def oD(w:Wo)(base:Nat)(v:Value)(ss:List ByteArray):Prop:=bO aPf w base 35 1 v ss.length (gT ss)
theorem oD.keep(h:oD w base v ss)(hb:Below w.heap.size w w'):oD w' base v ss:=bO.keep h hb
theorem oD.rd(h:oD w base (.slice A n c) ss):aW w w.heap.size A n ss:=by
 obtain⟨A',c',hv,hr,-⟩:=wM h.own;injection hv with e1 e2 e3;subst e1;subst e2;exact⟨rfl,hr⟩
theorem oD.at_{s:ByteArray}(h:oD w base (.slice A n c) ss)(hm:ss[i]?=some s):∃g,A=some ⟨g,0,none⟩/\base<=g/\g<w.heap.size/\w.cell? ⟨g,i,none⟩=some (.string s)/\(∀o,w.frozen? ⟨g,o,none⟩=false)/\
    ∀(s':ByteArray),oD (w.setCell ⟨g,i,none⟩ (.string s')) base (.slice A n c) (ss.set i s'):=by
 have hi:=(c_.1 hm).1;unfold oD at h;rcases h.2 with⟨h1,h2⟩ | ⟨g,cap,cur,h1,h2,hb,h4,h5,h6,h7,h8⟩
 ·omega
 ·have hc:w.cell? ⟨g,i,none⟩=some (.string s):=by
   rw[hb.cell];have:(gT ss)[i]?=some (.string s):=by unfold gT;rw[pL,hm];rfl
   rw[<-h7,List.getElem?_take] at this;split at this
   ·rwa[Array.getElem?_toList] at this
   ·cases this
  injection h1 with e1 e2 e3;refine⟨g,e1,h2,hb.lt,hc,fun o=>hb.frozen o,fun s'=>?_⟩;unfold oD;have e:gT (ss.set i s')=(gT ss).set i (.string s'):=List.map_set;rw[jI,e];refine⟨by rw[jI];exact h.1,.inr ⟨g,cap,cur.setIfInBounds i (.string s'),by rw[e1,e2,e3],h2,hb.set_ _ _,h4,h5,by rw[Array.size_setIfInBounds];exact h6,?_,fun _ _=>trivial⟩⟩;rw[Array.toList_setIfInBounds,iK _ _ _ _ (by omega),h7]
end
section
open Go.ChangeShapes Go.WideShapes Go.ChangeAt Go.RowKit
attribute [local go_sem ↓] aE
attribute [local go_sem] aJ aI aL aX cQ.cells
def AR(x:bP)(s:ByteArray):Int:=eP (fun z:ByteArray=>k_ z s) x.nodes 0
theorem IP(h:cQ)(x:bP)(s:ByteArray)(w:Wo)(hR:cX w w.heap.size h x):Calls Tryz.prog 15 #[.agg h.cells,.string s] w fun e w'=>e=.returned (.int .i64 (AR x s))/\Below w.heap.size w w':=by
 have TU:=vM w (.cells h.cells 29);have cI:=lH TU;have HR:=lH hR;have HQ:Hid (aD (w.alloc (.cells h.cells 29)) w.heap.size 29 h.cells):=lH (aD.new _ _ _);have hm:=hR.m0;have aJZ:=lH hR.r0.1;have HX:Hid (AR x s=eP (fun z:ByteArray=>k_ z s) x.nodes 0):=lH rfl;clear TU hR;obtain⟨y0,y1,y2,y3,y4,y5,nf,nlt⟩:=cG HQ.o;go_enter Tryz.func15,Tryz.ntmps15
 go_wp2_with fail
 go_loopw [10] (fun i wr=>∃k:Nat,k<=h.n0/\i=.int .i64 k/\Below w.heap.size w wr/\eP (fun z:ByteArray=>k_ z s) x.nodes 0=eP (fun z:ByteArray=>k_ z s) (x.nodes.drop k) k) (fun i _=>h.n0-(intOf i).toNat)
 case atStart=>exact⟨0,by omega,rfl,cI.o,rfl⟩
 case round=>
  obtain⟨k,hk,rfl,hb,BE⟩:=hrel;have HB:=lH hb;have HI:=lH BE;have FV:=(HR.o.up hb).r0;clear hb BE;by_cases aR:k<h.n0
  ·obtain⟨z,hz⟩:∃z,x.nodes[k]?=some z:=eG (by have:=aJZ.o;omega)
   obtain⟨b,off,hA,NB⟩:=FV.form (by omega);rw[hA] at FV;have c0:=FV.at_ hz;have hAA:=hA;have HZ:=lH (bW hz);have fV:=HB;clear hz FV;by_cases hp:k_ z s=true
   ·have HP:=lH hp
    (go_wp2_with fail);go_ret;exact⟨aQ (by rw[HX.o,HI.o,HZ.o];simp[eP,HP.o]),fV.o⟩
   ·have K_:k_ z s=false:=by simpa using hp
    have HP:=lH K_;clear hp;(go_wp2_with fail);go_roundw
    case rel=>exact⟨k+1,by omega,by go_num,fV.o,by rw[HI.o,HZ.o];simp[eP,HP.o]⟩
    case measure=>simp[intOf];omega
  ·have hd:x.nodes.drop k=[]:=by rw[List.drop_eq_nil_iff];have:=aJZ.o;omega
   have HD:=lH hd;clear hd FV;(go_wp2_with fail);go_ret;exact⟨aQ (by rw[HX.o,HI.o,HD.o];rfl),HB.o⟩
end
section
open Go.ChangeShapes Go.WideShapes Go.ChangeAt Go.RowKit
attribute [local go_sem ↓] aE
attribute [local go_sem] aJ aI aL aX
theorem QY(k d:Int)(w:Wo)(h0:-9223372036854775808<=k)(h1:k<=9223372036854775807)(h2:-9223372036854775808<=d)(h3:d<=9223372036854775807)(hd:d≠0)(ht:eY w):Calls Tryz.prog 48 #[.int .i64 k,.int .i64 d] w (RnP (Rat.divInt k d) w):=by
 have HT:=lH ht;have HC:=lH (O6 k d w h0 h1 h2 h3 hd);have hB:(d == 0)=false:=by simp[hd]
 clear ht h0 h1 h2 h3;go_enter Tryz.func48,Tryz.ntmps48
 go_wp2_with fail
 refine HC.o.mono ?_;rintro e w1 ⟨bG,u,rfl,hu⟩;obtain⟨cR,HU,Z6⟩:=eR bG hu (HT.o.up bG);clear bG hu
 go_wp2_with fail
 refine(IQ _ u.b1 u.A u.n u.c u.b2 u.A2 u.m u.d w1 HU.o Z6.o).mono ?_;rintro e w2 ⟨bV,hy,hn⟩;have dB:=bX cR bV;clear bV;by_cases hf:bJ (Rat.divInt k d)
 ·have he:=hy hf
  have HFI:=lH hf;subst he;clear hy hn hf;(go_wp2_with fail);go_ret2;exact⟨dB.o,fun _=>rfl,fun h=>absurd HFI.o h⟩
 ·have he:=hn hf
  have HFI:=lH hf;subst he;clear hy hn hf;(go_wp2_with fail);go_ret2;exact⟨dB.o,fun h=>absurd h HFI.o,fun _=>rfl⟩
theorem VQ(k d:Int)(w:Wo)(h0:-9223372036854775808<=k)(h1:k<=9223372036854775807)(h2:-9223372036854775808<=d)(h3:d<=9223372036854775807)(hd:d≠0)(ht:eY w):Calls Tryz.prog 20 #[.int .i64 k,.int .i64 d] w (fun e w'=>e=.returned (.string (rnS (Rat.divInt k d)))/\Below w.heap.size w w'):=by
 have HC:=lH (QY k d w h0 h1 h2 h3 hd ht);clear ht h0 h1 h2 h3;go_enter Tryz.func20,Tryz.ntmps20
 go_wp2_with fail
 refine HC.o.mono ?_;intro e w1 h;obtain⟨rfl,hb⟩:=h.out;clear h HC;have HB:=lH hb;clear hb;generalize hs:rnS (Rat.divInt k d)=s;have HS:=lH hs;clear hs;generalize rnE (Rat.divInt k d)=z
 go_wp2_with fail
 go_ret;exact⟨by rw[HS.o];rfl,HB.o⟩
theorem div_one(k:Int):Rat.divInt k 1=(k:Rat):=by rw[Rat.divInt_eq_div];show(k:Rat) / 1=_;grind
theorem oD.box{s:ByteArray}(h:oD w base (.slice (some ⟨g,0,none⟩) n c) ss)(hm:ss[i]?=some s):base<=g/\g<w.heap.size/\w.cell? ⟨g,i,none⟩=some (.string s)/\(∀o,w.frozen? ⟨g,o,none⟩=false)/\∀(s':ByteArray),oD (w.setCell ⟨g,i,none⟩ (.string s')) base (.slice (some ⟨g,0,none⟩) n c) (ss.set i s'):=by
 obtain⟨g',e,r⟩:=h.at_ hm;injection e with e;injection e with e1;subst e1;exact r
end
