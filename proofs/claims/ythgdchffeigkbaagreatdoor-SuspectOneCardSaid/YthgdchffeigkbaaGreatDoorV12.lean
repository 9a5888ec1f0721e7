import Derived.Test.YthgdchffeigkbaaGreatDoorV06
import Derived.Test.YthgdchffeigkbaaGreatDoorV07
import Derived.Test.YthgdchffeigkbaaGreatDoorV08
set_option linter.unusedVariables false
set_option linter.unusedSimpArgs false
namespace Go.Proofs.YthgdchffeigkbaaGreatDoor
set_option maxHeartbeats 8000000
set_option maxRecDepth 100000
variable {B n : Nat} {c : UInt8} {l : List UInt8} {w w' : World}
section
open Go.ChangeShapes Go.WideShapes Go.ChangeAt Go.RowKit
attribute [local go_sem ↓] aE
attribute [local go_sem] aJ aI aM
theorem OQ{base e size:Nat}{v:Value}{xs:List Value}(h:w.ownsRow base e size v n xs)(hb:Below w.heap.size w w'):w'.ownsRow base e size v n xs:=by
 refine⟨h.1,?_⟩;rcases h.2 with h1 | ⟨g,cap,cur,h1,h2,h3,h4⟩
 ·exact .inl h1
 ·refine .inr ⟨g,cap,cur,h1,h2,?_,h4⟩
  have hg:g<w.heap.size:=by
   rcases Nat.lt_or_ge g w.heap.size with aU | QU
   ·exact aU
   ·rw[Array.getElem?_eq_none QU] at h3;cases h3
  exact(hb.block g hg).trans h3
theorem aBG{g o:Nat}{l:List Nat}{row:Option Nat}{ob:Obj}(h:jU w B (some ⟨g,o,none⟩) n l)(hB:B<=w.heap.size)(hg:(w.alloc ob).grownBy w' row)(bX:some g≠row):jU w' w'.heap.size (some ⟨g,o,none⟩) n l:=
 ⟨h.1,fun hn=>by
  obtain⟨b,off,e,aU,hc⟩:=h.2 hn;injection e with e;injection e with e1 e2;subst e1;subst e2;have hs:=hg.size;simp at hs;exact⟨g,o,rfl,by omega,fun j u hu=>hg.cell (Lib.cell?_alloc_some _ (hc j u hu)) bX⟩⟩
theorem aDM:∀L:Nat,1<=L->L<=9->∀W,(Instr.sliceAt 9 (.string ⟨#[48,48,48,48,48,48,48,48,48]⟩) (some (.int .i64 (L:Int))) none none).run Tryz.prog W=.ok (.string ⟨(List.replicate (9-L) 48).toArray⟩) W:=by
 intro L h1 h9 W;rw[run_sliceAt_string W 9 _ _ _ _ Tryz.underlying9,run_slice_string_l W 9 _ Tryz.underlying9 .i64 (L:Int) (by omega) (by show _<=(9:Int);omega)];have:L=1\/L=2\/L=3\/L=4\/L=5\/L=6\/L=7\/L=8\/L=9:=by omega
 rcases this with rfl | rfl | rfl | rfl | rfl | rfl | rfl | rfl | rfl<;>rfl
theorem aOT{T e:TypeId}{b:Nat}{bs:List Value}(h:Lib.IsBuilder T e B b bs w)(hb:Below w.heap.size w w'):Lib.IsBuilder T e B b bs w':=by
 have key:∀p,Lib.BuilderAt T e B b p bs w->Lib.BuilderAt T e B b p bs w':=fun p h=>by
  have aU:=h.lt;obtain⟨h1,v,h2,h3,h4⟩:=h;exact⟨h1,v,(hb.block b aU).trans h2,OQ h3 hb,h4⟩
 exact h.elim (fun h=>.inl (key _ h)) fun h=>.inr (key _ h)
theorem kF(l:List UInt8):(⟨l.toArray⟩:ByteArray).size=l.length:=by simp[ByteArray.size]
def ItP(z:Int)(w:Wo)(e:Ending)(w':Wo):Prop:=Below w.heap.size w w'/\∃s,e=.returned (.tuple #[.string s,.bool (decide (zQ z.natAbs<=2000))])/\(zQ z.natAbs<=2000->s=⟨(kE z).toArray⟩)/\s.size<=3000
def TxI(T:TypeId)(w wr:Wo)(V k:Nat)(v4 v5:Value):Prop:=∃(ps:List Nat)(A:OA)(n c:Nat),v5=.slice A n c/\jU wr wr.heap.size A n (kU k)/\n<=c/\c<=9223372036854775807/\wr.ownsRow w.heap.size T 1 v4 ps.length (bS ps)/\Below w.heap.size w wr/\V=pv ps+k*1000000000^ps.length/\aHf ps/\(k=0->ps≠[]/\UB ps)/\ps.length<=225
theorem EL(z:Int)(b:Bool)(A:OA)(n c:Nat)(w:Wo)(h:cE w w.heap.size z b A n c)(ht:dM w):Calls Tryz.prog 117 #[.agg #[.bool b,.slice A n c]] w (ItP z w):=by
 have dA:Hid (Below w.heap.size w (w.alloc (.cells #[.bool b,.slice A n c] 113))):=lH (bA);obtain⟨eB,H1,HT,HEN,HEB⟩:=kN (aG.new w 113 #[.bool b,.slice A n c]) (h.up dA.o) (ht.up dA.o) h.en h.eb;have hnc:=h.nc;have LQ:=h.cm;obtain⟨i0,kA,rU,jR,kS⟩:=info_parts JR;obtain⟨L4,E9,QF,LB⟩:=iK kA rU jR kS;clear h ht kA rU jR kS;go_enter Tryz.func117,Tryz.ntmps117
 go_upto_region 1 with fail
 generalize w.alloc (.cells #[.bool b,.slice A n c] 113)=W at *;obtain⟨p0,p1,pl⟩:=eB.o.b2;by_cases h0:n=0
 ·subst h0
  have hz:z=0:=by
   have h:=HEN.o;refine Classical.byContradiction fun bX=>?_;rw[kP (by omega)] at h;omega
  subst hz;(go_wp2_with fail);go_ret2;have hd:decide (zQ (0:Int).natAbs<=2000)=true:=by decide+kernel
  have FO:kE 0=[48]:=by unfold kE;rw[show(0:Int).natAbs=0 from rfl,fJ (by decide)];rfl
  exact⟨dA.o,⟨#[48]⟩,by rw[hd];rfl,fun _=>by rw[FO],by decide⟩
 ·have aXN:((n:Int) == 0)=false:=by simp;omega
  by_cases aZc:210<n
  ·have uL:¬zQ z.natAbs<=2000:=Nat.not_le.2 (WY (by rw[<-HEN.o];exact aZc))
   have hnI:(210:Int)<(n:Int):=by omega
   (go_wp2_with fail);go_ret2;exact⟨dA.o,_,by rw[decide_eq_false uL];rfl,fun h=>absurd h uL,by decide⟩
  ·have hnI:(n:Int)<=210:=by omega
   have rU:z.natAbs≠0:=fun e=>h0 (by rw[HEN.o,e];exact iR);clear h0
   (go_wp2_with fail);clear p0 p1 pl aXN hnI
   go_loopg [4,5] z.natAbs (fun k v4 v5 wr=>TxI 216 W wr z.natAbs k v4 v5)
   case atStart=>exact⟨[],A,n,c,rfl,H1.o.rd,hnc,LQ,World.ownsRow_nil _ _ _ _,bR,by simp[pv],fun x hx=>(by cases hx),fun e=>absurd e rU,by simp⟩
   case round=>
    obtain⟨ps,A5,n5,c5,rfl,y_,O8,hc5,ho4,fD,O4,DF,aRS,dW⟩:=hrel;obtain⟨HR5,HO4,eK,P_,AS⟩:=kN y_ ho4 fD O4 DF;have HTP:=lH aRS;have HL5:Hid (n5=dL gk):=lH (by rw[<-y_.len];rfl);clear y_ ho4 fD O4 DF aRS;by_cases hk:gk=0
    ·subst hk
     have O8:n5=0:=by rw[HL5.o,iR]
     subst O8;have aSN:(0:Nat)=0:=rfl;obtain⟨bX,htp⟩:=HTP.o aSN;have aPf:=lH htp;obtain⟨L,hL⟩:∃L,ps.length=L:=⟨_,rfl⟩;have HLN:=lH hL;rw[hL] at HO4 dW;have hL0:0<L:=by rw[<-hL];exact List.length_pos_iff.2 bX
     have HD0:Hid (Dg ps 0=Lib.decDigits z.natAbs):=lH (by rw[aOO bX,P_.o,Nat.zero_mul,Nat.add_zero]);have hde:Dg ps L=[]:=by rw[<-hL];exact aGM ps
     have HDE:=lH hde;clear hL aSN bX htp;obtain⟨A4,c4,e4,DE,hn4,hc4⟩:=ZR HO4.o;subst e4;obtain⟨sN,HXr,HTr,HBr,fL⟩:=kN DE (eB.o.bl eK.o) (HT.o.up (eK.o)) (dA.o.tm eK.o) ((Below.refl wr.heap.size wr).alloc lR (.cells #[.pointer none,.slice none 0 0] 233));have mE:Hid (Lib.IsBuilder 233 5 wr.heap.size wr.heap.size (Lib.byteCells (Dg ps L)) (wr.alloc (.cells #[.pointer none,.slice none 0 0] 233))):=lH (.inl ⟨lR,.slice none 0 0,heap_alloc_new wr _,by rw[hde];exact World.ownsRow_nil _ _ _ _,by simp[Value.ownBlock]⟩);clear DE hn4 hc4 HR5 HO4 P_ HL5 HTP hde;have hLI:(1:Int)<=(L:Int):=by omega
     have aY2:(L:Int)<=225:=by omega
     (go_wp2_with fail);clear hLI aY2;generalize wr=Wp at *;have hBP:Wp.heap.size<=Wp.heap.size:=lR
     go_loopw [9,10] (fun v9 v10 wr=>∃k:Nat,k<=L/\v9=.int .i64 ((k:Int)-1)/\Lib.IsBuilder 233 5 Wp.heap.size Wp.heap.size (Lib.byteCells (Dg ps k)) wr/\Below Wp.heap.size Wp wr/\(Dg ps k).length+9*k<=9*L) (fun v9 _ _=>(intOf v9+1).toNat)
     case atStart=>exact⟨L,lR,rfl,mE.o,fL.o,by rw[HDE.o];simp⟩
     case round=>
      clear mE fL;obtain⟨k,hkL,rfl,sH,bH,hdl⟩:=hrel;have mE:=lH sH;have cH:=lH bH;have hWs:Wp.heap.size<=wr.heap.size:=bH.size;clear sH bH;by_cases hk:k=0
      ·subst hk
       have e:(((0:Nat):Int)-1)=-1:=rfl;rw[e];clear e;rw[HD0.o] at mE;have bX:Lib.decDigits z.natAbs≠[]:=fun e=>by have:=o3 z.natAbs;rw[e] at this;simp at this
       (go_wp2_with fail);refine(Tryz.Builder_String Wp.heap.size Wp.heap.size (Lib.decDigits z.natAbs) wr mE.o bX).mono ?_;rintro e w3 ⟨rfl,cN⟩;have dY:Hid (Below Wp.heap.size Wp w3):=lH (cH.o.trans cN);have YM:=lH (HXr.o.bl dY.o);have z8:=lH (HBr.o.tm dY.o);obtain⟨sb,GA⟩:∃sb:ByteArray,⟨(Lib.decDigits z.natAbs).toArray⟩=sb:=⟨_,rfl⟩;have NZ:=lH GA;rw[GA];obtain⟨N,hN⟩:∃N,sb.size=N:=⟨_,rfl⟩;have v_:Hid (zQ z.natAbs=N):=lH (by rw[<-hN,<-GA,kF];rfl);have aY1:N<=2025:=by
        have:N=(Lib.decDigits z.natAbs).length:=by rw[<-hN,<-GA,kF]
        rw[HD0.o,<-this] at hdl;omega
       have hNb:¬9223372036854775807<1+N:=by omega
       clear cN cH mE GA bX hdl;obtain⟨p0,pl⟩:=YM.o.b1;have hfd:decide (zQ z.natAbs<=2000)=decide ((N:Int)<=2000):=by rw[v_.o];exact decide_eq_decide.2 (by omega)
       have HFD:=lH hfd;clear hfd;have IL:=lH aY1;have QI:Hid (∀s,s=(⟨(kE z).toArray⟩:ByteArray)->ItP z w (.returned (.tuple #[.string s,.bool (decide ((N:Int)<=2000))])) w3):=lH fun s hs=>⟨z8.o,s,by rw[HFD.o],fun _=>hs,by
        rw[hs,kF];have h1:=IL.o;have h2:=v_.o;unfold zQ at h2;unfold kE;rw[jW];split<;>simp<;>omega⟩
       cases b with
       | true=>
        have hz:z<0:=by simpa using HEB.o.symm
        have HTX:Hid ((⟨#[45]⟩:ByteArray)++sb=⟨(kE z).toArray⟩):=lH (by
         rw[<-NZ.o];apply ByteArray.ext;unfold kE;rw[if_pos hz];simp)
        (go_wp2_with fail);go_ret2;exact QI.o _ HTX.o
       | false=>
        have hz:¬z<0:=by simpa using HEB.o.symm
        have HTX:Hid (sb=⟨(kE z).toArray⟩):=lH (by
         rw[<-NZ.o];unfold kE;rw[if_neg hz,List.nil_append])
        (go_wp2_with fail);go_ret2;exact QI.o _ HTX.o
      ·obtain⟨j,rfl⟩:∃j,k=j+1:=⟨k-1,by omega⟩
       have e:(((j+1:Nat):Int)-1)=(j:Int):=by omega
       rw[e];clear e hk;have hjL:j<L:=hkL;obtain⟨x,hx⟩:∃x,ps[j]?=some x:=eA (by have:=HLN.o;omega);have hx9:=AS.o x (bV hx);have hxd:ps.getD j 0=x:=by rw[dN,hx];rfl
       obtain⟨b4,o4,hA4,eR⟩:=sN.o.form (by omega);subst hA4;have hc:=(sN.o.below cH.o lR).at_ (i:=j) (by omega);rw[hxd] at hc;have XO:(j:Int)<(L:Int):=by omega
       have a4T:(x:Int) % 18446744073709551616=(x:Int):=by omega
       have HXJ:=lH hx;have HDL:=lH (aON hx AS.o);have HRM:Hid ((intOf (Value.int .i64 ((j:Int)-1))+1).toNat<(intOf (Value.int .i64 (j:Int))+1).toNat):=lH (by simp[intOf]);clear hxd hx;(go_wp2_with fail);refine(aJ4 x (by omega) wr (HTr.o.up (cH.o.mono lR))).mono ?_;rintro e w3 ⟨rfl,cN⟩;have dY:=lH (cH.o.trans (cN.mono hWs));have aHX:=lH (aOT mE.o cN);have hW3:Wp.heap.size<=w3.heap.size:=dY.o.size;obtain⟨ds,hds⟩:∃ds,Lib.decDigits x=ds:=⟨_,rfl⟩;have HDS:=lH hds;rw[hds] at HDL;rw[hds];have aYy:=HDL.o.1;have aYx:=HDL.o.2;clear cN hc cH mE hds;by_cases hjt:j+1=L
       ·have aX8:¬(j:Int)<(L:Int)-1:=by omega
        have HDJ:Hid (Dg ps j=ds):=lH (by rw[<-HDS.o];exact aOL HXJ.o (by rw[HLN.o];exact hjt));have HD1:Hid (Dg ps (j+1)=[]):=lH (by rw[hjt,<-HLN.o];exact aGM ps);rw[HD1.o] at aHX;(go_wp2_with fail);refine(DP Wp.heap.size Wp.heap.size _ ⟨ds.toArray⟩ w3 aHX.o (by rw[kF,Lib.byteCells_length];simp;omega) hW3).mono ?_;rintro e w4 ⟨⟨v4,rfl⟩,aGh,eR⟩;have aK5:Hid (Lib.IsBuilder 233 5 Wp.heap.size Wp.heap.size (Lib.byteCells (Dg ps j)) w4):=lH (.inr (by rw[HDJ.o];exact aGh));have bM:=lH (dY.o.trans eR);have wC:Hid ((Dg ps j).length+9*j<=9*L):=lH (by rw[HDJ.o];omega);clear aGh eR aHX dY;(go_wp2_with fail);go_roundw
        case rel=>exact⟨j,pJ hjL,rfl,aK5.o,bM.o,wC.o⟩
        case measure=>exact HRM.o
       ·have aX8:(j:Int)<(L:Int)-1:=by omega
        have HDJ:Hid (Dg ps j=Dg ps (j+1)++List.replicate (9-ds.length) 48++ds):=lH (by rw[<-HDS.o];exact aOM HXJ.o (by rw[HLN.o];omega) AS.o aPf.o);have hsl:∀W,(Instr.sliceAt 9 (.string ⟨#[48,48,48,48,48,48,48,48,48]⟩) (some (.int .i64 (ds.length:Int))) none none).run Tryz.prog W=.ok (.string ⟨(List.replicate (9-ds.length) 48).toArray⟩) W:=aDM ds.length aYy aYx;have hss:(⟨ds.toArray⟩:ByteArray).size=ds.length:=kF ds;(go_wp2_with fail);refine(DP Wp.heap.size Wp.heap.size _ ⟨Array.replicate (9-ds.length) 48⟩ w3 aHX.o (by rw[Lib.byteCells_length];simp[ByteArray.size];omega) hW3).mono ?_;rintro e w4 ⟨⟨v4,rfl⟩,aGh,eR⟩;have aK5:Hid (Lib.IsBuilder 233 5 Wp.heap.size Wp.heap.size (Lib.byteCells (Dg ps (j+1)++List.replicate (9-ds.length) 48)) w4):=lH (.inr (by
         rw[Lib.byteCells_append];have e:Lib.strCells ⟨Array.replicate (9-ds.length) 48⟩=Lib.byteCells (List.replicate (9-ds.length) 48):=by rw[Lib.strCells_eq];simp
         rw[<-e];exact aGh))
        have bM:=lH (dY.o.trans eR);have hW4:Wp.heap.size<=w4.heap.size:=bM.o.size;clear aGh eR aHX dY hsl hss;(go_wp2_with fail);refine(DP Wp.heap.size Wp.heap.size _ ⟨ds.toArray⟩ w4 aK5.o (by rw[kF,Lib.byteCells_length,jW,rB];omega) hW4).mono ?_;rintro e w5 ⟨⟨v5,rfl⟩,aTa,fD⟩;have a00:Hid (Lib.IsBuilder 233 5 Wp.heap.size Wp.heap.size (Lib.byteCells (Dg ps j)) w5):=lH (.inr (by rw[HDJ.o,Lib.byteCells_append];exact aTa));have eK:=lH (bM.o.trans fD);have wC:Hid ((Dg ps j).length+9*j<=9*L):=lH (by rw[HDJ.o,jW,jW,rB];omega);clear aTa fD aK5 bM;(go_wp2_with fail);go_roundw
        case rel=>exact⟨j,pJ hjL,rfl,a00.o,eK.o,wC.o⟩
        case measure=>exact HRM.o
    ·have a5y:0<n5:=by rw[HL5.o,kP hk];omega
     have lB:0<gk:=by omega
     have a58:ps.length<225:=aCw (v:=z.natAbs) (by rw[<-HEN.o];omega) lB (by rw[P_.o];omega);have aXK:n5<=35184372088832:=by
      rw[HL5.o];refine cO (lD (n:=z.natAbs) ?_) (by rw[<-HEN.o];omega);have h1:1<=1000000000^ps.length:=Nat.one_le_pow _ _ (by decide);have h2:gk*1<=gk*1000000000^ps.length:=Nat.mul_le_mul_left _ h1;rw[P_.o];omega
     (go_wp2_with fail);refine(aLg A5 n5 c5 1000000000 (kU gk) wr HR5.o (iC _) aXK (by decide) (by decide)).mono ?_;rw[eC];rintro e w6 ⟨fT,g6,n6,l6,rfl,rD,hd6,hv6,hn6,hg6⟩;have fL:=bW eK fT;obtain⟨HO6,LA,HD6,HV6⟩:=iK (OQ HO4.o fT) rD hd6 hv6;obtain⟨r,hr⟩:∃r,gk % 1000000000=r:=⟨_,rfl⟩;have HR:=lH hr;rw[hr];have hr9:r<1000000000:=by rw[<-hr];exact Nat.mod_lt _ (by decide)
     have HNE:Hid (some g6≠u4.ownBlock):=lH fun e=>by have:=(HO4.o.lt g6 e.symm).2;omega
     have HC6:=lH (cell_one_new w6 (.int .u32 (r:Int)) 216);clear fT rD hd6 hv6 HR5 HO4 eK hr
     go_wp2_with (at_builtin;refine wpList_append_own_at _ rfl (.tmp 31) (.tmp 33) _ rfl W.heap.size 216 i0 _ 1 4 Tryz.underlying111 L4.o E9.o QF.o LB.o rfl (by omega) u4 _ _ rfl (HO6.o.alloc _) ⟨_,0,none⟩ 1 1 [.int .u32 (r:Int)] rfl rfl HC6.o ?k1 ?k2 ?k3 ?k4 ?_)
     case k1=>intro u hu;rw[List.mem_singleton.1 hu];rfl
     case k2=>simp only[maxLen];omega
     case k3=>omega
     case k4=>have:=fL.o.size;simp;omega
     intro v7 w7 hown7 hg7 hnil7 hat7;have aSA:∀g,u4.ownBlock=some g->W.heap.size<=g:=fun g hg=>((HO6.o.lt g hg).1);have j_:=lH ((fL.o.alloc fL.o.size (.cells #[.int .u32 (r:Int)] 216)).grown hg7 (by have:=fL.o.size;simp;omega) aSA);have KK:=lH (aBG LA.o lR hg7 HNE.o);have HO7:Hid (w7.ownsRow W.heap.size 216 1 v7 (ps++[r]).length (bS (ps++[r]))):=lH (by
      rw[jW,List.length_singleton];unfold bS at hown7 ⊢;rw[List.map_append];exact hown7)
     clear hown7 hg7 hnil7 hat7 aSA fL HO6 LA HC6 HNE;(go_wp2_with fail);refine(kL false (some ⟨g6,0,none⟩) n6 n6 l6 w7 KK.o HD6.o lR (by omega)).mono ?_;rw[HV6.o];rintro e w8 ⟨gP,b8,A8,n8,c8,rfl,h8⟩;have dR:=bW j_ gP;have sK:=lH (OQ HO7.o gP);have YR:Hid (jU w8 w8.heap.size A8 n8 (kU (gk / 1000000000))):=lH h8.rd;have hn8:=h8.nc;have hc8:=h8.cm;clear gP h8 j_ HO7;have FZ:Hid (z.natAbs=pv (ps++[r])+gk / 1000000000*1000000000^(ps++[r]).length):=lH (by
      rw[P_.o,ZW,jW,List.length_singleton,Nat.pow_succ];have h:=Nat.div_add_mod gk 1000000000;rw[HR.o] at h;generalize gk / 1000000000=q at *;generalize 1000000000^ps.length=X at *;rw[<-h];grind)
     have HTT:Hid (gk / 1000000000=0->ps++[r]≠[]/\UB (ps++[r])):=lH fun h0=>⟨by simp,fun x hx=>by
      have h:=Nat.div_add_mod gk 1000000000;rw[HR.o,h0] at h;have:x=r:=by simpa using hx.symm
      omega⟩
     have wC:Hid ((ps++[r]).length<=225):=lH (by rw[jW,List.length_singleton];omega);have hfd:∀w,(Instr.field 113 (.agg #[.bool b8,.slice A8 n8 c8]) 1).run Tryz.prog w=.ok (.slice A8 n8 c8) w:=fun _=>by kernel_rfl
     have HMM:Hid (gk / 1000000000<gk):=lH (by omega);(go_wp2_with fail)
     go_roundg (gk / 1000000000)
     case rel=>exact⟨ps++[r],A8,n8,c8,rfl,YR.o,hn8,hc8,sK.o,dR.o,FZ.o,aBM AS.o hr9,HTT.o,wC.o⟩
     case measure=>exact HMM.o
theorem SX(l:List UInt8):Lib.hasPrefix (45::l) [45]=true:=by simp[Lib.hasPrefix]
theorem aD2(l:List UInt8):Lib.trimPrefix (45::l) [45]=l:=by unfold Lib.trimPrefix;rw[if_pos (SX l)];rfl
theorem aLJ(h:kQ l):Lib.hasPrefix l [45]=false:=by
 cases l with
 | nil=>rfl
 | cons c r=>
  have hc:=(h c (List.mem_cons_self ..)).1;have:((45:UInt8) == c)=false:=by
   cases hb:((45:UInt8) == c) with
   | false=>rfl
   | true=>have:=eq_of_beq hb;subst this;exact absurd hc (by decide)
  simp[Lib.hasPrefix,List.isPrefixOf,this]
theorem aRk(h:kQ l):Lib.trimPrefix l [45]=l:=by unfold Lib.trimPrefix;rw[aLJ h];rfl
theorem aGy(l:List UInt8)(n:Nat)(h:n<=l.length):(⟨l.toArray⟩:ByteArray).extract 0 n=⟨(l.take n).toArray⟩:=by
 apply ByteArray.ext;rw[ByteArray.data_extract];simp
theorem aGz(l:List UInt8)(n:Nat):(⟨l.toArray⟩:ByteArray).extract n l.length=⟨(l.drop n).toArray⟩:=by
 apply ByteArray.ext;rw[ByteArray.data_extract];apply Array.ext';simp;exact nL (by simp)
def LH(neg:Bool)(l:List UInt8):Int:=if neg then -(dv l:Int) else dv l
def rdT(neg:Bool)(l:List UInt8):ByteArray:=⟨((if neg then[45] else[])++l).toArray⟩
theorem aJo(w:Wo)(B:Nat):cE w B 0 false none 0 0:=⟨by simp,by rw[Int.natAbs_zero,iR],by rw[Int.natAbs_zero,nD];exact BU _ _ _,lR,by decide⟩
theorem aJp{v:Nat}{A:OA}{c:Nat}(h:cE w B (v:Int) false A n c)(m:Bool):cE w B (DY m v) (m && decide (0<n)) A n c:=by
 have hn:n=dL v:=by rw[h.en,Int.natAbs_natCast]
 refine⟨?_,by rw[GZ];exact hn,by rw[GZ];have:=h.rd;rwa[Int.natAbs_natCast] at this,h.nc,h.cm⟩;rw[ZP];congr 1
 refine decide_eq_decide.2 ?_;rw[hn];by_cases h0:v=0
 ·subst h0;rw[iR]
 ·rw[kP h0];omega
theorem aEb(l:List UInt8)(k:Nat)(h:k<=l.length)(W:Wo):(Instr.sliceAt 9 (.string ⟨l.toArray⟩) none (some (.int .i64 (k:Int))) none).run Tryz.prog W=.ok (.string ⟨(l.take k).toArray⟩) W:=by
 rw[run_sliceAt_string W 9 _ _ _ _ Tryz.underlying9,run_slice_string_h W 9 _ Tryz.underlying9 .i64 (k:Int) (by omega) (by rw[kF];omega),jF,aGy l k h]
theorem RL(l:List UInt8)(k:Nat)(h:k<=l.length)(W:Wo):(Instr.sliceAt 9 (.string ⟨l.toArray⟩) (some (.int .i64 (k:Int))) none none).run Tryz.prog W=.ok (.string ⟨(l.drop k).toArray⟩) W:=by
 rw[run_sliceAt_string W 9 _ _ _ _ Tryz.underlying9,run_slice_string_l W 9 _ Tryz.underlying9 .i64 (k:Int) (by omega) (by rw[kF];omega),jF,kF,aGz l k]
def aZk(g2 g4:Nat)(l:List UInt8)(w wr:Wo)(k:Nat)(v0:Value):Prop:=∃(dn rs:List UInt8)(A:OA)(n c:Nat),v0=.string ⟨rs.toArray⟩/\l=dn++rs/\k=rs.length/\(dn=[]\/rs.length % 9=0)/\Below w.heap.size w wr/\aG wr g2 113 #[.bool false,.slice none 0 0]/\aG wr g4 113 #[.bool false,.slice A n c]/\cE wr wr.heap.size (dv dn:Int) false A n c
theorem BT(neg:Bool)(l:List UInt8)(hd:kQ l)(hl:l.length<=1000000)(w:Wo):Calls Tryz.prog 113 #[.string (rdT neg l)] w (LgP (LH neg l) w):=by
 have HP:Hid (Lib.hasPrefix (rdT neg l).data.toList [45]=neg):=lH (by cases neg;exact aLJ hd;exact SX l);have HT:Hid (Lib.trimPrefix (rdT neg l).data.toList [45]=l):=lH (by cases neg;exact aRk hd;exact aD2 l);have HD:=lH hd;have dA:Hid (Below w.heap.size w ((w.alloc (.cells #[.bool false,.slice none 0 0] 113)).alloc (.cells #[.bool false,.slice none 0 0] 113))):=lH ((bA).alloc (by simp) _);have eB:Hid (aG ((w.alloc (.cells #[.bool false,.slice none 0 0] 113)).alloc (.cells #[.bool false,.slice none 0 0] 113)) w.heap.size 113 #[.bool false,.slice none 0 0]):=lH ((aG.new w _ _).alloc _);have f_:Hid (aG ((w.alloc (.cells #[.bool false,.slice none 0 0] 113)).alloc (.cells #[.bool false,.slice none 0 0] 113)) (w.heap.size+1) 113 #[.bool false,.slice none 0 0]):=lH (aG.new_ (by simp));generalize rdT neg l=s at *;clear hd;go_enter Tryz.func113,Tryz.ntmps113
 go_wp2_with fail
 refine(Tryz.strings_HasPrefix s ⟨#[45]⟩ _).mono ?_;rintro e w1 ⟨he,hw⟩;subst hw;rw[show(⟨#[45]⟩:ByteArray).data.toList=[45] from rfl,HP.o] at he;subst he
 go_wp2_with fail
 refine(Tryz.strings_TrimPrefix s ⟨#[45]⟩ _).mono ?_;rintro e w1 ⟨he,hw⟩;subst hw;rw[show(⟨#[45]⟩:ByteArray).data.toList=[45] from rfl,HT.o] at he;subst he
 go_wp2_with fail
 generalize ((w.alloc (.cells #[.bool false,.slice none 0 0] 113)).alloc (.cells #[.bool false,.slice none 0 0] 113))=W at *;obtain⟨g4,hg4⟩:∃g,w.heap.size+1=g:=⟨_,rfl⟩;rw[hg4] at f_;have HG4:=lH hg4;rw[hg4];clear hg4;have aFP:w.heap.size≠g4:=by have:=HG4.o;omega
 have aSV:w.heap.size<=g4:=by have:=HG4.o;omega
 go_loopg [0] l.length (fun k v0 wr=>aZk w.heap.size g4 l w wr k v0)
 case atStart=>exact⟨[],l,none,0,0,rfl,rfl,rfl,.inl rfl,dA.o,eB.o,f_.o,aJo _ _⟩
 case round=>
  clear dA eB f_ HP HT;obtain⟨dn,rs,A,n,c,rfl,hlr,hgk,hmd,hbr,K6,hp4,ha⟩:=hrel;obtain⟨HLR,HGK,HMD,qA,wE⟩:=kN hlr hgk hmd hbr K6;have DA:=lH hp4;have HA:=lH ha;have HAN:Hid (n=dL (dv dn)):=lH (by rw[ha.en,Int.natAbs_natCast]);have HSR:Hid ((⟨rs.toArray⟩:ByteArray).size=rs.length):=lH (kF rs);clear hlr hgk hmd hbr K6 hp4 ha;by_cases hrs:rs.length=0
  ·have SW:(⟨rs.toArray⟩:ByteArray).size=0:=by rw[HSR.o,hrs]
   have hdn:dn=l:=by rw[HLR.o,List.eq_nil_of_length_eq_zero hrs,List.append_nil]
   rw[hdn] at HA HAN;clear hdn hrs;obtain⟨z0,z1,zf,zl⟩:=DA.o.e2;have QI:Hid (∀b,b=(neg && decide (0<n))->cE (wr.setCell ⟨g4,0,none⟩ (.bool b)) (wr.setCell ⟨g4,0,none⟩ (.bool b)).heap.size (LH neg l) b A n c):=lH fun b hb=>by
    rw[hb];exact(aJp HA.o neg).keep (DA.o.cell 0) (by simp) _
   have HPX:Hid (∀b,aG (wr.setCell ⟨g4,0,none⟩ (.bool b)) g4 113 #[.bool b,.slice A n c]/\aG (wr.setCell ⟨g4,0,none⟩ (.bool b)) w.heap.size 113 #[.bool false,.slice none 0 0]/\Below w.heap.size w (wr.setCell ⟨g4,0,none⟩ (.bool b))):=lH fun b=>⟨DA.o.set_at (i:=0) (.bool b) (by simp),wE.o.far aFP _,qA.o.setCell aSV _⟩;have rW:w.heap.size<=w.heap.size:=lR;have hc3:neg=false\/(neg=true/\n=0)\/(neg=true/\0<n):=by cases neg<;>simp<;>omega
   rcases hc3 with rfl | ⟨rfl,rfl⟩ | ⟨rfl,mY⟩
   ·have hq0:=SW
    (go_upto_region 10 with fail);clear z0 z1 zf zl;obtain⟨CH,y9,hx3⟩:=HPX.o false;have hx4:=QI.o false rfl;obtain⟨eB,f_,YM,HX4⟩:=iK CH y9 hx3 hx4;clear CH y9 hx3 hx4 QI HPX;generalize wr.setCell ⟨g4,0,none⟩ (.bool false)=V at *;obtain⟨y0,y1,yl⟩:=eB.o.b2;obtain⟨z0,z1,zf,zl⟩:=f_.o.e2;(go_wp2_with fail);generalize fU:(V.setCell ⟨_,0,none⟩ _).setCell ⟨_,1,none⟩ _=W9;have jM:=lH (pG (e:=.returned (.agg #[.bool false,.slice A n c])) YM.o rW f_.o (by simp) (by simp) HX4.o rfl);rw[fU] at jM;have eV:Hid (aG W9 _ 113 #[.bool false,.slice A n c]):=lH (by rw[<-fU];exact cD f_.o);clear fU z0 z1 zf zl;obtain⟨q0,q1⟩:=eV.o.a2;exact bodyPost_ret (v:=.agg #[.bool false,.slice A n c]) (by simp[results,Tryz.results113,go_sem,q0,q1]) rfl jM.o
   ·have h00:=SW
    (go_upto_region 10 with fail);clear z0 z1 zf zl;obtain⟨CH,y9,hx3⟩:=HPX.o false;have hx4:=QI.o false (by simp);obtain⟨eB,f_,YM,HX4⟩:=iK CH y9 hx3 hx4;clear CH y9 hx3 hx4 QI HPX;generalize wr.setCell ⟨g4,0,none⟩ (.bool false)=V at *;obtain⟨y0,y1,yl⟩:=eB.o.b2;obtain⟨z0,z1,zf,zl⟩:=f_.o.e2;(go_wp2_with fail);generalize fU:(V.setCell ⟨_,0,none⟩ _).setCell ⟨_,1,none⟩ _=W9;have jM:=lH (pG (e:=.returned (.agg #[.bool false,.slice A 0 c])) YM.o rW f_.o (by simp) (by simp) HX4.o rfl);rw[fU] at jM;have eV:Hid (aG W9 _ 113 #[.bool false,.slice A 0 c]):=lH (by rw[<-fU];exact cD f_.o);clear fU z0 z1 zf zl;obtain⟨q0,q1⟩:=eV.o.a2;exact bodyPost_ret (v:=.agg #[.bool false,.slice A 0 c]) (by simp[results,Tryz.results113,go_sem,q0,q1]) rfl jM.o
   ·have a5B:(0:Int)<(n:Int):=by omega
    (go_upto_region 10 with fail);clear z0 z1 zf zl;obtain⟨CH,y9,hx3⟩:=HPX.o true;have hx4:=QI.o true (by simp[mY]);obtain⟨eB,f_,YM,HX4⟩:=iK CH y9 hx3 hx4;clear CH y9 hx3 hx4 QI HPX;generalize wr.setCell ⟨g4,0,none⟩ (.bool true)=V at *;obtain⟨y0,y1,yl⟩:=eB.o.b2;obtain⟨z0,z1,zf,zl⟩:=f_.o.e2;(go_wp2_with fail);generalize fU:(V.setCell ⟨_,0,none⟩ _).setCell ⟨_,1,none⟩ _=W9;have jM:=lH (pG (e:=.returned (.agg #[.bool true,.slice A n c])) YM.o rW f_.o (by simp) (by simp) HX4.o rfl);rw[fU] at jM;have eV:Hid (aG W9 _ 113 #[.bool true,.slice A n c]):=lH (by rw[<-fU];exact cD f_.o);clear fU z0 z1 zf zl;obtain⟨q0,q1⟩:=eV.o.a2;exact bodyPost_ret (v:=.agg #[.bool true,.slice A n c]) (by simp[results,Tryz.results113,go_sem,q0,q1]) rfl jM.o
  ·have SW:(0:Int)<((⟨rs.toArray⟩:ByteArray).size:Int):=by rw[HSR.o];omega
   obtain⟨L,hL⟩:∃L,rs.length=L:=⟨_,rfl⟩;rw[hL] at hrs HSR HMD HGK;have wC:=lH hL;obtain⟨q,hq⟩:∃q,(L-1) % 9=q:=⟨_,rfl⟩;have HQ:=lH hq;have hqL:q+1<=L:=by omega
   have hq9:q+1<=9:=by omega
   have hLl:L<=1000000:=by rw[<-hL];refine cO ?_ hl;rw[HLR.o,jW];omega
   have hdl:dn.length<=1000000:=by refine cO ?_ hl;rw[HLR.o,jW];omega
   obtain⟨ch,hch⟩:∃ch,rs.take (q+1)=ch:=⟨_,rfl⟩;obtain⟨rt,QS⟩:∃rt,rs.drop (q+1)=rt:=⟨_,rfl⟩;have aJC:∀W,(Instr.sliceAt 9 (.string ⟨rs.toArray⟩) none (some (.int .i64 ((q:Int)+1))) none).run Tryz.prog W=.ok (.string ⟨ch.toArray⟩) W:=fun W=>by
    have:=aEb rs (q+1) (by omega) W;rw[hch] at this;exact this
   have aFE:∀W,(Instr.sliceAt 9 (.string ⟨rs.toArray⟩) (some (.int .i64 ((q:Int)+1))) none none).run Tryz.prog W=.ok (.string ⟨rt.toArray⟩) W:=fun W=>by
    have:=RL rs (q+1) (by omega) W;rw[QS] at this;exact this
   have aZT:=lH aFE;have aJY:kQ ch:=by
    rw[<-hch];exact kQ.take (fun x hx=>HD.o x (by rw[HLR.o];exact List.mem_append_right _ hx)) _
   have aJX:kQ dn:=fun x hx=>HD.o x (by rw[HLR.o];exact List.mem_append_left _ hx);have zC:ch.length=q+1:=by rw[<-hch,kR];omega
   have HPU:Hid (Lib.parseUintB 32 (⟨ch.toArray⟩:ByteArray).data.toList=.ok (dv ch)):=lH (by rw[show(⟨ch.toArray⟩:ByteArray).data.toList=ch from by simp];exact aW0 aJY (fun e=>by rw[e] at zC;simp at zC) (by omega));have hdc:dv ch<1000000000:=by
    have h1:=J5 aJY;have h2:10^ch.length<=10^9:=Nat.pow_le_pow_right (by decide) (by omega);omega
   have HSC:Hid ((⟨ch.toArray⟩:ByteArray).size<=9223372036854775806):=lH (by rw[kF];omega);have U1:Hid ((dv dn:Int)*1000000000+(dv ch:Int)=(dv (dn++ch):Int)):=lH (by
    rw[aKd dn ch (HMD.o.imp id fun h=>by omega),Int.natCast_add,Int.natCast_mul];rfl)
   have aUU:Hid (l=(dn++ch)++rt):=lH (by rw[HLR.o,List.append_assoc,<-hch,<-QS,List.take_append_drop]);have aUj:Hid (rt.length=L-(q+1)):=lH (by rw[<-QS,LC];omega);have HR9:Hid (rt.length % 9=0):=lH (by rw[aUj.o];omega);have UI:Hid (rt.length<gk):=lH (by rw[aUj.o,HGK.o];omega);have hdd:=PN aJX;have HS6:Hid (dL ((dv dn:Int)*1000000000).natAbs<=35184372088832):=lH (by
    refine cO (fI _ _) ?_;rw[Int.natAbs_natCast,show(1000000000:Int).natAbs=1000000000 from rfl,tK (n:=1000000000) (by decide) (by decide)];omega)
   have HS7:Hid (dL (dv ch:Int).natAbs<=35184372088832):=lH (by
    rw[Int.natAbs_natCast];have:=PN aJY;omega)
   have v_:Hid (n<=1000000):=lH (by rw[HAN.o];omega);have aXt:((L:Int)-1).tmod 9=(q:Int):=by
    rw[<-hq,show((L:Int)-1)=((L-1:Nat):Int) from by omega];rfl
   have iV:=HSR.o;have hL1:(1:Int)<=(L:Int):=by omega
   clear hq hch QS aFE aJY aJX zC hL;(go_wp2_with fail);refine(Tryz.strconv_ParseUint_10_at32_ok ⟨ch.toArray⟩ HSC.o (dv ch) HPU.o wr).mono ?_;rintro e w3 ⟨rfl,hw3⟩;have cN:Below wr.heap.size wr w3:=by
    rcases hw3 with rfl | rfl
    ·exact bR
    ·exact Lib.bytesWorld_below _ _ _
   have aVq:=bW qA cN;obtain⟨L3,UH,HA3⟩:=d_ (wE.o.bl cN) (DA.o.bl cN) (HA.o.up cN);clear cN hw3 qA wE DA HA aJC aXt iV hL1 SW;have qA:=aVq;have wE:=L3;have DA:=UH;have HA:=HA3;clear aVq L3 UH HA3;generalize wr=wq at *;generalize w3=wr at *;obtain⟨z0,z1,zl⟩:=DA.o.b2;have XS:(dv ch:Int) % 18446744073709551616=(dv ch:Int):=by omega
   have aOv:IntKind.i64.wrap (dv ch:Int)=(dv ch:Int):=Go.IntWalk.i64_in _ (by omega);(go_upto_region 7 with fail);refine bZ (S:=fun w'=>w'.cell? ⟨g4,0,none⟩=some (.bool false)/\w'.cell? ⟨g4,1,none⟩=some (.slice A n c)) 7 _ (by kernel_rfl) (by kernel_rfl) rfl ⟨z0,z1⟩ (fun hHeld=>?_);simp only[nI,List.take_zero];refine gB 0 (v:=?_) ?_ hHeld ?_;rotate_left 1
   ·intro w' hSw;obtain⟨s0,s1⟩:=hSw;go_simp<;>with_reducible rfl
   (try simp only[Act.put,gL,gK,gJ]);refine gB 3 (v:=?_) ?_ hHeld ?_;rotate_left 1
   ·intro w' hSw;obtain⟨s0,s1⟩:=hSw;go_simp<;>with_reducible rfl
   (try simp only[Act.put,gL,gK,gJ]);refine gB 4 (v:=?_) ?_ hHeld ?_;rotate_left 1
   ·intro w' hSw;obtain⟨s0,s1⟩:=hSw;go_simp<;>with_reducible rfl
   (try simp only[Act.put,gL,gK,gJ]);clear z0 z1;refine bQ 1 (fun K hK=>?_);go_simp;refine(AE 1000000000 _ (by decide) (by decide)).mono ?_;rintro e w5 ⟨fD,f5,C5,i5,j5,rfl,h5⟩;have eK:=lH ((aK (Below.refl wr.heap.size wr)).trans fD);obtain⟨M,hM,h5⟩:∃M:Int,M=1000000000/\cE w5 w5.heap.size M f5 C5 i5 j5:=⟨_,rfl,h5⟩;have HM:=lH hM;have hi5:i5<=1:=by rw[h5.en,hM];exact lE (show(1000000000:Nat)<4294967296^1 by decide)
   have H5:=lH h5;clear fD h5 hM;go_simp;refine hK.out _ _ ?_ (fun hHeld=>?_)
   ·exact⟨(DA.o.bl eK.o).cell 0,(DA.o.bl eK.o).cell 1⟩
   clear hK K;(try simp only[Act.put,gL,gK,gJ]);refine bQ 2 (fun K hK=>?_);go_simp;refine(jP (dv dn:Int) M false A n c f5 C5 i5 j5 w5 (HA.o.up eK.o) H5.o (cO (Nat.add_le_add v_.o hi5) (by decide))).mono ?_;rintro e w6 ⟨fT,f6,C6,i6,j6,rfl,h6⟩;have fL:=bW eK fT;have H6:=lH h6;clear fT h6 H5;go_simp;refine hK.out _ _ ?_ (fun hHeld=>?_)
   ·exact⟨(DA.o.bl fL.o).cell 0,(DA.o.bl fL.o).cell 1⟩
   clear hK K;(try simp only[Act.put,gL,gK,gJ]);refine bQ 5 (fun K hK=>?_);go_simp;refine(AE (dv ch:Int) _ (by omega) (by omega)).mono ?_;rintro e w7 ⟨iA,f7,C7,i7,j7,rfl,h7⟩;have j_:=bW fL iA;have H7:=lH h7;have H67:=lH (H6.o.up iA);clear iA h7 H6;go_simp;refine hK.out _ _ ?_ (fun hHeld=>?_)
   ·exact⟨(DA.o.bl j_.o).cell 0,(DA.o.bl j_.o).cell 1⟩
   clear hK K;(try simp only[Act.put,gL,gK,gJ]);refine bQ 6 (fun K hK=>?_);go_simp;refine(PW ((dv dn:Int)*M) (dv ch:Int) f6 C6 i6 j6 f7 C7 i7 j7 w7 H67.o H7.o (by rw[H67.o.en,HM.o];exact HS6.o) (by rw[H7.o.en];exact HS7.o)).mono ?_;rw[HM.o,U1.o];rintro e w8 ⟨gP,f8,C8,i8,j8,rfl,h8⟩;have dR:=bW j_ gP;have H8:=lH h8;clear gP h8 H67 H7;go_simp;refine hK.out _ _ ?_ (fun hHeld=>?_)
   ·exact⟨(DA.o.bl dR.o).cell 0,(DA.o.bl dR.o).cell 1⟩
   clear hK K;(try simp only[Act.put,gL,gK,gJ]);refine eM ?_;have hf8:f8=false:=by rw[H8.o.eb];exact decide_eq_false (Int.not_lt.2 (Int.natCast_nonneg _))
   subst hf8;obtain⟨QC,KN,a01⟩:=d_ (DA.o.bl dR.o) (wE.o.bl dR.o) (qA.o.tm dR.o);have a7o:=aUU;obtain⟨z0,z1,zf,zl⟩:=QC.o.e2;(go_upto_region 8 with fail);clear z0 z1 zf zl;generalize FN:(w8.setCell ⟨g4,0,none⟩ _).setCell ⟨g4,1,none⟩ _=w9;have QB:Hid (aG w9 g4 113 #[.bool false,.slice C8 i8 j8]):=lH (by rw[<-FN];exact cD QC.o);have aHC:Hid (aG w9 w.heap.size 113 #[.bool false,.slice none 0 0]):=lH (by rw[<-FN];exact(KN.o.far aFP _).far aFP _);have eV:Hid (Below w.heap.size w w9):=lH (by rw[<-FN];exact cY a01.o aSV);have H9:Hid (cE w9 w9.heap.size (dv (dn++ch):Int) false C8 i8 j8):=lH (by rw[<-FN];exact(H8.o.keep (QC.o.cell 0) (by simp) _).keep ((QC.o.set_ 0 (.bool false)).cell 1) (by simp) _);clear FN;have aFE:=aZT.o;(go_wp2_with fail)
   go_roundg rt.length
   case rel=>exact⟨dn++ch,rt,C8,i8,j8,rfl,aUU.o,rfl,.inr HR9.o,eV.o,aHC.o,QB.o,H9.o⟩
   case measure=>exact UI.o
def dgB(c:UInt8):Bool:=decide (48<=c.toNat/\c.toNat<=57)
def gE(l:List UInt8):Int:=if l.all dgB then(if l=[]\/(1<l.length/\l.head?=some 48) then 5 else if 2000<l.length then 2 else 0) else 5
theorem aAC:l.all dgB=true<->kQ l:=by
 rw[List.all_eq_true];unfold kQ P5 dgB;exact⟨fun h c hc=>by simpa using h c hc,fun h c hc=>by simpa using h c hc⟩
theorem tC:gE l=0<->F4 l/\l.length<=2000:=by
 unfold gE F4;by_cases h:l.all dgB=true
 ·rw[if_pos h]
  have ha:=aAC.1 h;by_cases h1:l=[]\/(1<l.length/\l.head?=some 48)
  ·rw[if_pos h1]
   refine⟨fun e=>(by cases e),fun⟨⟨g1,g2,g3⟩,g4⟩=>?_⟩;rcases h1 with h1 | ⟨h1,h2⟩
   ·exact absurd h1 g1
   ·exact absurd h2 (g3 h1)
  ·rw[if_neg h1]
   have hn:l≠[]:=fun e=>h1 (.inl e);have hz:1<l.length->l.head?≠some 48:=fun g e=>h1 (.inr ⟨g,e⟩)
   by_cases h2:2000<l.length
   ·rw[if_pos h2]
    exact⟨fun e=>(by cases e),fun⟨_,g⟩=>by omega⟩
   ·rw[if_neg h2]
    exact⟨fun _=>⟨⟨hn,ha,hz⟩,by omega⟩,fun _=>rfl⟩
 ·rw[if_neg h]
  exact⟨fun e=>(by cases e),fun⟨⟨_,g,_⟩,_⟩=>absurd (aAC.2 g) h⟩
theorem yB(s:ByteArray)(w:Wo)(hs:s.size<=maxLen):Calls Tryz.prog 137 #[.string s] w fun e w'=>e=.returned (.int .i64 (gE s.data.toList))/\Below w.heap.size w w':=by
 have XS:=fun w=>run_bytes_of_string (P:=Tryz.prog) w 9 231 5 s Tryz.underlying9 Tryz.underlying231 Tryz.underlying5;unfold maxLen at hs;go_enter Tryz.func137,Tryz.ntmps137
 go_wp2_with fail
 clear XS;generalize grownCap w s.size 0 5=cap;have jI:∀k (h:k<s.data.size),(w.alloc (.cells (bytesRow s cap) 5 ((bytesRow s cap).size,(bytesRow s cap).size+1))).cell? ⟨w.heap.size,k,none⟩=some (.int .u8 (s.data[k].toNat:Int)):=fun k h=>by
  rw[World.cell?_alloc_mark,bytesRow_at s cap k h]
 have HC:=lH jI;have K0:Below w.heap.size w (w.alloc (.cells (bytesRow s cap) 5 ((bytesRow s cap).size,(bytesRow s cap).size+1))).drew:=aK (bA);have HK:=lH K0;have aOa:w.heap.size<(w.alloc (.cells (bytesRow s cap) 5 ((bytesRow s cap).size,(bytesRow s cap).size+1))).heap.size:=by simp
 clear jI K0;generalize (w.alloc (.cells (bytesRow s cap) 5 ((bytesRow s cap).size,(bytesRow s cap).size+1)))=w1 at *
 go_loop [4,8] (fun _ i=>∃k:Nat,k<=s.size/\i=.int .i64 k/\s.data.toList.all dgB=(s.data.toList.drop k).all dgB) (fun _ i=>s.size-(intOf i).toNat)
 case atStart=>exact⟨0,by omega,rfl,rfl⟩
 case round=>
  obtain⟨k,hk,rfl,pD⟩:=hrel;have HG:=lH pD;clear pD;by_cases aU:k<s.size
  ·obtain⟨n,hn,UY⟩:∃n:Nat,n<256/\n=(s.data[k]'aU).toNat:=⟨_,UInt8.toNat_lt _,rfl⟩
   have hc:=HC.o k aU;rw[<-UY] at hc;have hd:s.data.toList.drop k=s.data[k]'aU::s.data.toList.drop (k+1):=by
    rw[List.drop_eq_getElem_cons (by simp;exact aU)];simp
   have HD:Hid ((s.data.toList.drop k).all dgB=(decide (48<=n/\n<=57) && (s.data.toList.drop (k+1)).all dgB)):=lH (by rw[hd,UY];rfl);have fY:(k:Int)<(s.size:Int):=by omega
   clear hd UY;by_cases h48:n<48
   ·have HN:Hid (gE s.data.toList=5):=lH (by unfold gE;rw[HG.o,HD.o,decide_eq_false (by omega),Bool.false_and];rfl)
    (go_wp2_with fail);go_ret;exact⟨aX HN.o.symm,HK.o⟩
   ·by_cases h57:57<n
    ·have HN:Hid (gE s.data.toList=5):=lH (by unfold gE;rw[HG.o,HD.o,decide_eq_false (by omega),Bool.false_and];rfl)
     (go_wp2_with fail);go_ret;exact⟨aX HN.o.symm,HK.o⟩
    ·have HN:Hid (s.data.toList.all dgB=(s.data.toList.drop (k+1)).all dgB):=lH (by rw[HG.o,HD.o,decide_eq_true (by omega),Bool.true_and])
     go_wp2_with fail
     go_round
     case rel=>exact⟨k+1,by omega,by go_num,HN.o⟩
     case measure=>simp[intOf];omega
  ·have hd:s.data.toList.drop k=[]:=by rw[List.drop_eq_nil_iff];simp;exact Nat.le_of_not_lt aU
   have HA:Hid (s.data.toList.all dgB=true):=lH (by rw[HG.o,hd];rfl);have fY:¬(k:Int)<(s.size:Int):=by omega
   have HS:=lH (Lib.size_eq s);clear hd HG;by_cases h0:s.size=0
   ·have hl:s.data.toList=[]:=List.eq_nil_of_length_eq_zero (by have:=HS.o;omega)
    have HN:Hid (gE s.data.toList=5):=lH (by rw[hl];rfl);have SW:s=⟨#[]⟩:=by apply ByteArray.ext;apply Array.ext';simpa using hl
    subst SW;(go_wp2_with fail);go_ret;exact⟨aX HN.o.symm,HK.o⟩
   ·obtain⟨c,r,hcr⟩:∃c r,s.data.toList=c::r:=by
     cases hl:s.data.toList with
     | nil=>exact absurd (by have:=HS.o;rw[hl] at this;simpa using this) h0
     | cons c r=>exact⟨c,r,rfl⟩
    have hem:s.toList.isEmpty=false:=by rw[ByteArray.toList_eq,hcr];rfl
    have bX:s.toList≠[]:=fun e=>by rw[e] at hem;cases hem
    have a5d:∀h:0<s.size,(s[0]'h).toNat=c.toNat:=fun h=>by
     have:s.data.toList[0]?=some c:=by rw[hcr];rfl
     have h2:s.data[0]?=some c:=by simpa using this
     obtain⟨h3,h4⟩:=Array.getElem?_eq_some_iff.1 h2;show(s.data[0]'h3).toNat=_;rw[h4]
    have HCR:=lH hcr;have XI:0<s.size:=by omega
    have NY:Hid (s.size=r.length+1):=lH (by rw[HS.o,hcr];rfl);clear hcr;by_cases h1:1<s.size
    ·have h1I:(1:Int)<(s.size:Int):=by omega
     by_cases h48:c.toNat=48
     ·have aZa:((c.toNat:Int) == 48)=true:=by rw[h48];rfl
      have HN:Hid (gE s.data.toList=5):=lH (by
       unfold gE;rw[HA.o,if_pos rfl,if_pos (.inr ⟨by rw[<-HS.o];exact h1,by rw[HCR.o];exact congrArg some (UInt8.toNat_inj.1 h48)⟩)])
      (go_wp2_with fail);go_ret;exact⟨aX HN.o.symm,HK.o⟩
     ·have aZa:((c.toNat:Int) == 48)=false:=by simp;omega
      have hno:¬(s.data.toList=[]\/(1<s.data.toList.length/\s.data.toList.head?=some 48)):=by
       rw[HCR.o];rintro(h | ⟨_,h⟩)
       ·cases h
       ·injection h with h;subst h;exact h48 rfl
      have HNO:=lH hno;clear hno;by_cases h2:2000<s.size
      ·have h2I:(2000:Int)<(s.size:Int):=by omega
       have HN:Hid (gE s.data.toList=2):=lH (by unfold gE;rw[HA.o,if_pos rfl,if_neg HNO.o,if_pos (by rw[<-HS.o];exact h2)]);(go_wp2_with fail);go_ret;exact⟨aX HN.o.symm,HK.o⟩
      ·have h2I:¬(2000:Int)<(s.size:Int):=by omega
       have HN:Hid (gE s.data.toList=0):=lH (by unfold gE;rw[HA.o,if_pos rfl,if_neg HNO.o,if_neg (by rw[<-HS.o];exact h2)]);(go_wp2_with fail);go_ret;exact⟨aX HN.o.symm,HK.o⟩
    ·have h1I:¬(1:Int)<(s.size:Int):=by omega
     have h2I:¬(2000:Int)<(s.size:Int):=by omega
     have HN:Hid (gE s.data.toList=0):=lH (by
      unfold gE;have hl:=HS.o;rw[HA.o,if_pos rfl,if_neg (by rw[HCR.o];rintro(h | ⟨h,_⟩);cases h;rw[HCR.o] at hl;omega),if_neg (by omega)])
     (go_wp2_with fail);go_ret;exact⟨aX HN.o.symm,HK.o⟩
theorem MG(s:ByteArray):rdT false s.data.toList=s:=by
 apply ByteArray.ext;simp[rdT]
def TwP(y z:Int)(w:Wo)(e:Ending)(w':Wo):Prop:=Below w.heap.size w w'/\∃b A n c b2 B m d,e=.returned (.tuple #[.agg #[.bool b,.slice A n c],.agg #[.bool b2,.slice B m d],.int .i64 0])/\cE w' w'.heap.size y b A n c/\cE w' w'.heap.size z b2 B m d
theorem aM5(s t:ByteArray)(w:Wo)(h1:gE s.data.toList=0)(h2:gE t.data.toList=0):Calls Tryz.prog 161 #[.string s,.string t] w (TwP (dv s.data.toList) (dv t.data.toList) w):=by
 obtain⟨⟨_,k1,_⟩,k2⟩:=tC.1 h1;obtain⟨⟨_,k3,_⟩,k4⟩:=tC.1 h2;have HD1:Hid (kQ s.data.toList):=lH k1;have HD2:Hid (kQ t.data.toList):=lH k3;have HL1:Hid (s.size<=2000):=lH (by rw[Lib.size_eq];exact k2);have U2:Hid (t.size<=2000):=lH (by rw[Lib.size_eq];exact k4);have fC:=lH h1;have iI:=lH h2;have kA:∀w,(Instr.index 258 (.agg #[.string s,.string t]) (.int .i64 0)).run Tryz.prog w=.ok (.string s) w:=fun _=>by kernel_rfl
 have LO:∀w,(Instr.index 258 (.agg #[.string s,.string t]) (.int .i64 1)).run Tryz.prog w=.ok (.string t) w:=fun _=>by kernel_rfl
 have L4:=lH kA;have E9:=lH LO;have dA:Hid (Below w.heap.size w ((w.alloc (.cells #[.bool false,.slice none 0 0] 113)).alloc (.cells #[.bool false,.slice none 0 0] 113))):=lH ((bA).alloc (by simp) _);have eB:Hid (aG ((w.alloc (.cells #[.bool false,.slice none 0 0] 113)).alloc (.cells #[.bool false,.slice none 0 0] 113)) w.heap.size 113 #[.bool false,.slice none 0 0]):=lH ((aG.new w _ _).alloc _);have f_:Hid (aG ((w.alloc (.cells #[.bool false,.slice none 0 0] 113)).alloc (.cells #[.bool false,.slice none 0 0] 113)) (w.heap.size+1) 113 #[.bool false,.slice none 0 0]):=lH (aG.new_ (by simp));clear h1 h2 k1 k2 k3 k4 kA LO;go_enter Tryz.func161,Tryz.ntmps161
 go_wp2_with fail
 generalize ((w.alloc (.cells #[.bool false,.slice none 0 0] 113)).alloc (.cells #[.bool false,.slice none 0 0] 113))=W at *
 go_loopw [8,9,13] (fun v8 v9 i wr=>∃k:Nat,k<=2/\i=.int .i64 k/\Below w.heap.size w wr/\aG wr w.heap.size 113 #[.bool false,.slice none 0 0]/\aG wr (w.heap.size+1) 113 #[.bool false,.slice none 0 0]) (fun _ _ i _=>2-(intOf i).toNat)
 case atStart=>exact⟨0,by omega,rfl,dA.o,eB.o,f_.o⟩
 case round=>
  clear dA eB f_;obtain⟨k,hk,rfl,hb,CH,y9⟩:=hrel;obtain⟨HB,eB,f_⟩:=d_ hb CH y9;clear hb CH y9;have hc:k=0\/k=1\/k=2:=by omega
  rcases hc with rfl | rfl | rfl
  ·have e:(((0:Nat):Int))=0:=rfl
   rw[e];clear e;have kA:=L4.o;(go_wp2_with fail);refine(yB s wr (by have:=HL1.o;unfold maxLen;omega)).mono ?_;rw[fC.o];rintro e w1 ⟨rfl,bC⟩;have bT:=bW HB bC;have E2:=lH (eB.o.bl bC);have aCX:=lH (f_.o.bl bC);clear bC HB eB f_ kA;(go_wp2_with fail);go_roundw
   case rel=>exact⟨1,by omega,rfl,bT.o,E2.o,aCX.o⟩
   case measure=>simp[intOf]
  ·have e:(((1:Nat):Int))=1:=rfl
   rw[e];clear e;have LO:=E9.o;(go_wp2_with fail);refine(yB t wr (by have:=U2.o;unfold maxLen;omega)).mono ?_;rw[iI.o];rintro e w1 ⟨rfl,bC⟩;have bT:=bW HB bC;have E2:=lH (eB.o.bl bC);have aCX:=lH (f_.o.bl bC);clear bC HB eB f_ LO;(go_wp2_with fail);go_roundw
   case rel=>exact⟨2,by omega,rfl,bT.o,E2.o,aCX.o⟩
   case measure=>simp[intOf]
  ·have e:(((2:Nat):Int))=2:=rfl
   rw[e];clear e;(go_wp2_with fail);have c1:=BT false s.data.toList HD1.o (by have:=HL1.o;rw[Lib.size_eq] at this;omega) wr;rw[MG] at c1;refine c1.mono ?_;clear c1;rintro e w1 ⟨bC,f1,C1,i1,j1,rfl,h1⟩;have bT:=bW HB bC;obtain⟨E2,aCX,H1⟩:=d_ (eB.o.bl bC) (f_.o.bl bC) h1;clear bC HB eB f_ h1;(go_wp2_with fail);have c2:=BT false t.data.toList HD2.o (by have:=U2.o;rw[Lib.size_eq] at this;omega) w1;rw[MG] at c2;refine c2.mono ?_;clear c2;rintro e w2 ⟨bH,f2,C2,i2,j2,rfl,h2⟩;have cH:=bW bT bH;obtain⟨YN,aO8,H12,H22⟩:=iK (E2.o.bl bH) (aCX.o.bl bH) (H1.o.up bH) h2;have e10:w.heap.size+1≠w.heap.size:=by omega
   have e01:w.heap.size≠w.heap.size+1:=by omega
   clear bH bT E2 aCX h2 H1;obtain⟨y0,y1,yf,yl⟩:=YN.o.e2;obtain⟨z0,z1,zf,zl⟩:=aO8.o.e2;(go_wp2_with fail);clear y0 y1 yf yl z0 z1 zf zl;generalize hw3:(w2.setCell ⟨w.heap.size,0,none⟩ (.bool f1)).setCell ⟨w.heap.size,1,none⟩ (.slice C1 i1 j1)=w3;have aO9:Hid (aG w3 w.heap.size 113 #[.bool f1,.slice C1 i1 j1]):=lH (by rw[<-hw3];exact cD YN.o);have aHn:Hid (aG w3 (w.heap.size+1) 113 #[.bool false,.slice none 0 0]):=lH (by rw[<-hw3];exact(aO8.o.far e10 _).far e10 _);have dY:Hid (Below w.heap.size w w3):=lH (by rw[<-hw3];exact cY cH.o lR);have H13:Hid (cE w3 w3.heap.size (LH false s.data.toList) f1 C1 i1 j1):=lH (by rw[<-hw3];exact(H12.o.keep (YN.o.cell 0) (by simp) _).keep ((YN.o.set_ 0 (.bool f1)).cell 1) (by simp) _);have H23:Hid (cE w3 w3.heap.size (LH false t.data.toList) f2 C2 i2 j2):=lH (by rw[<-hw3];exact(H22.o.keep (YN.o.cell 0) (by simp) _).keep ((YN.o.set_ 0 (.bool f1)).cell 1) (by simp) _);clear hw3 YN aO8 cH H12 H22;generalize F_:(w3.setCell ⟨w.heap.size+1,0,none⟩ (.bool f2)).setCell ⟨w.heap.size+1,1,none⟩ (.slice C2 i2 j2)=w4;have aZz:Hid (aG w4 w.heap.size 113 #[.bool f1,.slice C1 i1 j1]):=lH (by rw[<-F_];exact(aO9.o.far e01 _).far e01 _);have aZy:Hid (aG w4 (w.heap.size+1) 113 #[.bool f2,.slice C2 i2 j2]):=lH (by rw[<-F_];exact cD aHn.o);have bM:Hid (Below w.heap.size w w4):=lH (by rw[<-F_];exact cY dY.o (Nat.le_succ _));have H14:Hid (cE w4 w4.heap.size (LH false s.data.toList) f1 C1 i1 j1):=lH (by rw[<-F_];exact(H13.o.keep (aHn.o.cell 0) (by simp) _).keep ((aHn.o.set_ 0 (.bool f2)).cell 1) (by simp) _);have H24:Hid (cE w4 w4.heap.size (LH false t.data.toList) f2 C2 i2 j2):=lH (by rw[<-F_];exact(H23.o.keep (aHn.o.cell 0) (by simp) _).keep ((aHn.o.set_ 0 (.bool f2)).cell 1) (by simp) _);clear F_;obtain⟨q0,q1⟩:=aZz.o.a2;obtain⟨q2,q3⟩:=aZy.o.a2;exact bodyPost_ret (v:=.tuple #[.agg #[.bool f1,.slice C1 i1 j1],.agg #[.bool f2,.slice C2 i2 j2],.int .i64 0]) (by simp[results,Tryz.results161,go_sem,q0,q1,q2,q3]) rfl ⟨bM.o,f1,C1,i1,j1,f2,C2,i2,j2,rfl,H14.o,H24.o⟩
theorem aE2(v:Nat)(b:Bool)(A:OA)(n c:Nat)(w:Wo)(h:cE w w.heap.size (v:Int) b A n c)(ht:dM w)(hv:zQ v<=2000):Calls Tryz.prog 162 #[.agg #[.bool b,.slice A n c]] w fun e w'=>e=.returned (.tuple #[.string ⟨(Lib.decDigits v).toArray⟩,.int .i64 0])/\Below w.heap.size w w':=by
 have dA:Hid (Below w.heap.size w (w.alloc (.cells #[.bool b,.slice A n c] 113))):=lH (bA);obtain⟨eB,H1,HT⟩:=d_ (aG.new w 113 #[.bool b,.slice A n c]) (h.up dA.o) (ht.up dA.o);have hf:zQ (v:Int).natAbs<=2000:=by rw[Int.natAbs_natCast];exact hv
 have HF:=lH hf;have HTL:Hid (kE (v:Int)=Lib.decDigits v):=lH (by unfold kE;rw[if_neg (Int.not_lt.2 (Int.natCast_nonneg v)),Int.natAbs_natCast,List.nil_append]);clear h ht hf;go_enter Tryz.func162,Tryz.ntmps162
 go_upto_region 1 with fail
 generalize w.alloc (.cells #[.bool b,.slice A n c] 113)=W at *;obtain⟨p0,p1,pl⟩:=eB.o.b2
 go_wp2_with fail
 refine(EL (v:Int) b A n c W H1.o HT.o).mono ?_;rintro e w1 ⟨bC,s,he,hs,-⟩;rw[decide_eq_true HF.o] at he;have wY:=hs HF.o;rw[HTL.o] at wY;subst wY;subst he;have bT:=bW dA bC;clear bC hs p0 p1 pl
 go_wp2_with fail
 go_ret2;exact⟨rfl,bT.o⟩
theorem aGp{a b:Nat}(ha:a<10^2000)(hb:b<10^2000):zQ (a.gcd b)<=2000:=by
 refine WO (by decide) ?_;rcases Nat.eq_zero_or_pos a with h | h
 ·subst h;rw[Nat.gcd_zero_left];exact hb
 ·exact zT_ (Nat.gcd_le_left _ h) ha
theorem aJf(s t:ByteArray)(w:Wo)(h1:gE s.data.toList=0)(h2:gE t.data.toList=0)(ht:dM w):Calls Tryz.prog 138 #[.string s,.string t] w fun e w'=>e=.returned (.tuple #[.string ⟨(Lib.decDigits ((dv s.data.toList).gcd (dv t.data.toList))).toArray⟩,.int .i64 0])/\Below w.heap.size w w':=by
 obtain⟨HT,fC,iI⟩:=d_ ht h1 h2;have aU:∀l:List UInt8,gE l=0->dv l<10^2000/\dL (dv l)<=2000:=fun l h=>by
  obtain⟨⟨_,k1,_⟩,k2⟩:=tC.1 h;have h3:=AB k2;have h4:=jE (J5 k1) h3;exact⟨h4,cO (PN k1) k2⟩
 have HA:=lH (aU _ h1);have HC:=lH (aU _ h2);clear ht h1 h2 aU;go_enter Tryz.func138,Tryz.ntmps138
 go_wp2_with fail
 refine(aM5 s t w fC.o iI.o).mono ?_;rintro e w1 ⟨bC,f1,C1,i1,j1,f2,C2,i2,j2,rfl,g1,g2⟩;have HK:Hid (Below w1.heap.size w1 ((w1.alloc (.cells #[.bool f1,.slice C1 i1 j1] 113)).alloc (.cells #[.bool f2,.slice C2 i2 j2] 113))):=lH ((bA).alloc (by simp) _);have bT:=lH (bC.tm HK.o);have eB:Hid (aG ((w1.alloc (.cells #[.bool f1,.slice C1 i1 j1] 113)).alloc (.cells #[.bool f2,.slice C2 i2 j2] 113)) w1.heap.size 113 #[.bool f1,.slice C1 i1 j1]):=lH ((aG.new w1 _ _).alloc _);have f_:Hid (aG ((w1.alloc (.cells #[.bool f1,.slice C1 i1 j1] 113)).alloc (.cells #[.bool f2,.slice C2 i2 j2] 113)) (w1.heap.size+1) 113 #[.bool f2,.slice C2 i2 j2]):=lH (aG.new_ (by simp));have H1:=lH (g1.up HK.o);have H2:=lH (g2.up HK.o);have hn1:i1<=2000:=by rw[g1.en,Int.natAbs_natCast];exact HA.o.2
 have UY:i2<=2000:=by rw[g2.en,Int.natAbs_natCast];exact HC.o.2
 clear bC HK g1 g2
 go_upto_region 2 with fail
 generalize ((w1.alloc (.cells #[.bool f1,.slice C1 i1 j1] 113)).alloc (.cells #[.bool f2,.slice C2 i2 j2] 113))=W at *;obtain⟨p0,p1,pl⟩:=eB.o.b2;obtain⟨q0,q1,ql⟩:=f_.o.b2
 go_wp2_with fail
 refine(aAr (dv s.data.toList:Int) (dv t.data.toList:Int) f1 C1 i1 j1 f2 C2 i2 j2 W H1.o H2.o (cO hn1 (by decide)) (cO UY (by decide))).mono ?_;rw[Int.natAbs_natCast,Int.natAbs_natCast];rintro e w3 ⟨cN,f3,C3,i3,j3,rfl,g3⟩;have dY:=bW bT cN;have H3:=lH g3;clear cN g3 p0 p1 pl q0 q1 ql
 go_wp2_with fail
 refine(aE2 _ f3 C3 i3 j3 w3 H3.o (HT.o.up dY.o) (aGp HA.o.1 HC.o.1)).mono ?_;rintro e w4 ⟨rfl,eR⟩;have bM:=bW dY eR;clear eR
 go_wp2_with fail
 go_ret2;exact⟨rfl,bM.o⟩
def iW(c:UInt8):List UInt8->List UInt8×List UInt8×Bool
 | []=>([],[],false)
 | x::r=>if x=c then([],r,true) else(x::(iW c r).1,(iW c r).2.1,(iW c r).2.2)
theorem PU:∀{l:List UInt8},c∉l->iW c l=(l,[],false)
 | [],_=>rfl
 | x::r,h=>by
  have h1:x≠c:=fun e=>h (by rw[e];exact List.mem_cons_self ..);unfold iW;rw[if_neg h1,PU fun hm=>h (List.mem_cons_of_mem _ hm)]
theorem TT:∀{a b:List UInt8},c∉a->iW c (a++c::b)=(a,b,true)
 | [],b,_=>by simp[iW]
 | x::r,b,h=>by
  have h1:x≠c:=fun e=>h (by rw[e];exact List.mem_cons_self ..);rw[List.cons_append,iW,if_neg h1,TT fun hm=>h (List.mem_cons_of_mem _ hm)]
theorem X4(c:UInt8):∀l:List UInt8,(Lib.indexByte l c=-1/\iW c l=(l,[],false))\/(∃i:Nat,Lib.indexByte l c=(i:Int)/\i+1<=l.length/\iW c l=(l.take i,l.drop (i+1),true))
 | []=>.inl ⟨rfl,rfl⟩
 | x::r=>by
  unfold Lib.indexByte iW;by_cases h:x=c
  ·right
   exact⟨0,by simp[h],by simp,by simp[h]⟩
  ·have hb:(x == c)=false:=by simpa using h
   rw[hb,if_neg h];rcases X4 c r with⟨h1,h2⟩ | ⟨i,h1,h2,h3⟩
   ·left
    rw[h1,h2];simp
   ·right
    refine⟨i+1,?_,by simp;omega,by rw[h3];simp⟩;rw[h1];have:((i:Int) == -1)=false:=by simp
    simp[this]
theorem aAG:∀{l:List UInt8},(iW c l).2.2=true->l=(iW c l).1++c::(iW c l).2.1/\c∉(iW c l).1
 | [],h=>by cases h
 | x::r,h=>by
  unfold iW at h ⊢;by_cases hx:x=c
  ·subst hx;simp
  ·rw[if_neg hx] at h ⊢
   obtain⟨h1,h2⟩:=aAG (l:=r) h;refine⟨by simp only[List.cons_append];rw[<-h1],fun hm=>?_⟩;rcases List.mem_cons.1 hm with e | hm
   ·exact hx e.symm
   ·exact h2 hm
theorem EU:∀{l:List UInt8},(iW c l).2.2=false->c∉l/\iW c l=(l,[],false)
 | [],_=>⟨by simp,rfl⟩
 | x::r,h=>by
  by_cases hx:x=c
  ·unfold iW at h;rw[if_pos hx] at h;cases h
  ·have h':(iW c r).2.2=false:=by unfold iW at h;rw[if_neg hx] at h;exact h
   obtain⟨h1,h2⟩:=EU h';have h3:c∉x::r:=fun hm=>(List.mem_cons.1 hm).elim (fun e=>hx e.symm) h1;exact⟨h3,PU h3⟩
def aVF(c:UInt8)(l:List UInt8)(w:Wo)(e:Ending)(w':Wo):Prop:=e=.returned (.tuple #[.string ⟨(iW c l).1.toArray⟩,.string ⟨(iW c l).2.1.toArray⟩,.bool (iW c l).2.2])/\Below w.heap.size w w'
theorem aFw(c:UInt8)(l:List UInt8)(hl:l.length<=9223372036854775807)(w:Wo):Calls Tryz.prog 142 #[.string ⟨l.toArray⟩,.string ⟨#[c]⟩] w (aVF c l w):=by
 have hix:=X4 c l;have HIX:=lH hix;clear hix;go_enter Tryz.func142,Tryz.ntmps142
 go_wp2_with fail
 refine(Tryz.stringslite_Index_one ⟨l.toArray⟩ c w).mono ?_;rintro e w1 ⟨he,hw⟩;subst hw;rw[show(⟨l.toArray⟩:ByteArray).data.toList=l from by simp] at he;rcases HIX.o with⟨h1,h2⟩ | ⟨i,h1,h2,h3⟩
 ·rw[h1] at he
  subst he;have HQ:=lH h2;clear h1 h2;(go_wp2_with fail)
  go_ret3
  exact⟨by rw[HQ.o];rfl,bR⟩
 ·rw[h1] at he
  subst he;have HQ:=lH h3;have aJC:∀W,(Instr.sliceAt 9 (.string ⟨l.toArray⟩) none (some (.int .i64 (i:Int))) none).run Tryz.prog W=.ok (.string ⟨(l.take i).toArray⟩) W:=fun W=>aEb l i (by omega) W;have aFE:∀W,(Instr.sliceAt 9 (.string ⟨l.toArray⟩) (some (.int .i64 ((i:Int)+1))) none none).run Tryz.prog W=.ok (.string ⟨(l.drop (i+1)).toArray⟩) W:=fun W=>RL l (i+1) h2 W;have hwr:IntKind.i64.wrap ((i:Int)+1)=(i:Int)+1:=Go.IntWalk.i64_in _ (by omega);obtain⟨A,hA⟩:∃A,l.take i=A:=⟨_,rfl⟩;obtain⟨B,hB⟩:∃B,l.drop (i+1)=B:=⟨_,rfl⟩;rw[hA] at aJC;rw[hB] at aFE;rw[hA,hB] at HQ;clear h1 h3 hA hB
  go_wp2_with fail
  go_quiet (fail)
  go_wp2_with fail
  go_ret3
  exact⟨by rw[HQ.o];rfl,bD bR _⟩
theorem aAF(c:UInt8)(l:List UInt8)(hl:l.length<=9223372036854775807)(w:Wo):Calls Tryz.prog 112 #[.string ⟨l.toArray⟩,.string ⟨#[c]⟩] w (aVF c l w):=by
 go_enter Tryz.func112,Tryz.ntmps112
 go_wp2_with fail
 refine(aFw c l hl w).mono ?_;rintro e w1 ⟨rfl,hb⟩;have HB:=lH hb;clear hb
 go_wp2_with fail
 go_ret3
 exact⟨rfl,HB.o⟩
end
section
open Go.ChangeShapes Go.WideShapes Go.ChangeAt Go.RowKit
attribute [local go_sem ↓] aE
attribute [local go_sem] aJ aI aM aR
def BN(l:List UInt8):List UInt8:=Lib.trimPrefix l [45]
def vP(l:List UInt8):List UInt8:=(iW 47 (BN l)).1
def tV(l:List UInt8):List UInt8:=(iW 47 (BN l)).2.1
def LG(l:List UInt8):Bool:=(iW 47 (BN l)).2.2
def rtB(l:List UInt8):Int:=if LG l then gE (tV l) else 0
def yX(l:List UInt8):Prop:=gE (vP l)=5\/rtB l=5\/(vP l=[48]/\(BN l).length<l.length)
def BP(l:List UInt8):Prop:=gE (vP l)≠0\/rtB l≠0
def BO(l:List UInt8):Prop:=tV l=[48]\/tV l=[49]\/(dv (vP l)).gcd (dv (tV l))≠1
instance (l:List UInt8):Decidable (yX l):=by unfold yX;infer_instance
instance (l:List UInt8):Decidable (BP l):=by unfold BP;infer_instance
instance (l:List UInt8):Decidable (BO l):=by unfold BO;infer_instance
def cI(l:List UInt8):Int:=if yX l then 5 else if BP l then 2 else if LG l=true/\BO l then 3 else 0
theorem OJ(l:List UInt8)(c:UInt8):pH ⟨l.toArray⟩ ⟨#[c]⟩=decide (l=[c]):=by
 unfold pH;refine decide_eq_decide.2 ⟨fun h=>?_,fun h=>by rw[h]⟩;have:=congrArg (fun(x:ByteArray)=>x.data.toList) h;simpa using this
theorem PQ:Lib.decDigits n=[49]<->n=1:=
 ⟨fun h=>PR (h.trans (show[49]=Lib.decDigits 1 by rw[fJ (by decide)];rfl)),fun h=>by rw[h,fJ (by decide)];rfl⟩
theorem xX(l:List UInt8)(hl:l.length<=maxLen)(w:Wo)(ht:dM w):Calls Tryz.prog 104 #[.string ⟨l.toArray⟩] w fun e w'=>e=.returned (.int .i64 (cI l))/\Below w.heap.size w w':=by
 have HT:=lH ht;have hsl:(BN l).length<=l.length:=by unfold BN Lib.trimPrefix;split<;>simp
 have HS:Hid (Lib.trimPrefix l [45]=BN l):=lH rfl;have zC:(vP l).length<=(BN l).length/\(tV l).length<=(BN l).length:=by
  unfold vP tV;rcases X4 47 (BN l) with⟨_,h⟩ | ⟨i,_,_,h⟩<;>rw[h]<;>simp<;>omega
 have Y8:=lH zC;have hm:(BN l).length<=9223372036854775807:=cO hsl (by unfold maxLen at hl;omega);have HLE:=lH hl;have dZ:Hid ((⟨(BN l).toArray⟩:ByteArray).size=(BN l).length):=lH (kF _);have aZS:Hid ((⟨l.toArray⟩:ByteArray).size=l.length):=lH (kF _);have NY:=lH hsl;clear ht zC hl hsl;go_enter Tryz.func104,Tryz.ntmps104
 go_wp2_with fail
 refine(Tryz.strings_TrimPrefix ⟨l.toArray⟩ ⟨#[45]⟩ w).mono ?_;rintro e w1 ⟨he,hw⟩;subst hw;rw[show(⟨l.toArray⟩:ByteArray).data.toList=l from by simp,show(⟨#[45]⟩:ByteArray).data.toList=[45] from rfl,HS.o] at he;subst he
 go_wp2_with fail
 refine(aAF 47 (BN l) hm w1).mono ?_;rintro e w2 ⟨he,bH⟩;rw[show(iW 47 (BN l)).1=vP l from rfl,show(iW 47 (BN l)).2.1=tV l from rfl,show(iW 47 (BN l)).2.2=LG l from rfl] at he;subst he;have cH:=lH bH;clear bH hm;have hq0:=OJ (vP l) 48;have hd0:=OJ (tV l) 48;have hd1:=OJ (tV l) 49;obtain⟨tn,htn⟩:∃t:ByteArray,⟨(vP l).toArray⟩=t:=⟨_,rfl⟩;obtain⟨td,htd⟩:∃t:ByteArray,⟨(tV l).toArray⟩=t:=⟨_,rfl⟩;have HTN:Hid (tn.data.toList=vP l):=lH (by rw[<-htn]);have HTD:Hid (td.data.toList=tV l):=lH (by rw[<-htd]);have aZN:Hid (tn.size=(vP l).length):=lH (by rw[<-htn];exact kF _);have aZO:Hid (td.size=(tV l).length):=lH (by rw[<-htd];exact kF _);rw[htn] at hq0 ⊢;rw[htd] at hd0 hd1 ⊢;obtain⟨HQ0,DI,sO⟩:=d_ hq0 hd0 hd1;clear htn htd hq0 hd0 hd1
 go_wp2_with fail
 refine(yB tn w2 (by rw[aZN.o];exact cO Y8.o.1 (cO NY.o HLE.o))).mono ?_;rw[HTN.o];rintro e w3 ⟨rfl,cN⟩;have dY:=bW cH cN;clear cN cH;obtain⟨a,ha⟩:∃a,gE (vP l)=a:=⟨_,rfl⟩;obtain⟨b,hb⟩:∃b,rtB l=b:=⟨_,rfl⟩;obtain⟨is,his⟩:∃i,LG l=i:=⟨_,rfl⟩;obtain⟨HA,HBb,HI⟩:=d_ ha hb his;rw[ha,his];clear ha hb his
 go_upto_if 21 with fail
 go_cut [8] (fun v wc=>v=.int .i64 b/\Below w1.heap.size w1 wc)
 case first=>
  cases is with
  | true=>
   (go_wp2_with fail);refine(yB td w3 (by rw[aZO.o];exact cO Y8.o.2 (cO NY.o HLE.o))).mono ?_;rw[HTD.o];rintro e w4 ⟨he,eR⟩;have hbe:gE (tV l)=b:=by rw[<-HBb.o];unfold rtB;rw[HI.o];rfl
   rw[hbe] at he;subst he;have bM:=bW dY eR;clear eR hbe;(go_wp2_with fail);go_meet
   case rel=>exact⟨rfl,bM.o⟩
  | false=>
   have AZ:b=0:=by rw[<-HBb.o];unfold rtB;rw[HI.o];rfl
   subst AZ;(go_wp2_with fail);go_meet
   case rel=>exact⟨rfl,dY.o⟩
 obtain⟨hv,eR⟩:=hcut;subst hv;have bM:=lH eR;clear eR dY;generalize wc=V at *
 go_upto_region 6 with fail
 go_cut [24] (fun v wd=>wd=V/\v=.bool (decide (yX l)))
 case first=>
  have HP5:Hid (yX l<->(a=5\/b=5\/(vP l=[48]/\(BN l).length<l.length))):=lH (by unfold yX;rw[HA.o,HBb.o]);by_cases ha:a=5
  ·have hd:decide (yX l)=true:=decide_eq_true (HP5.o.2 (.inl ha))
   have jA:(a == 5)=true:=by simp[ha]
   clear ha;(go_wp2_with fail);go_meet
   case rel=>exact⟨rfl,by rw[hd]⟩
  ·have jA:(a == 5)=false:=by simp[ha]
   by_cases hb:b=5
   ·have hd:decide (yX l)=true:=decide_eq_true (HP5.o.2 (.inr (.inl hb)))
    have pE:(b == 5)=true:=by simp[hb]
    clear ha hb;(go_wp2_with fail);go_meet
    case rel=>exact⟨rfl,by rw[hd]⟩
   ·have pE:(b == 5)=false:=by simp[hb]
    have wZ:=dZ.o;have wY:=aZS.o;by_cases hn:vP l=[48]
    ·have hx:tn.toList=[48]:=by rw[ByteArray.toList_eq,HTN.o];exact hn
     by_cases aU:(BN l).length<l.length
     ·have hd:decide (yX l)=true:=decide_eq_true (HP5.o.2 (.inr (.inr ⟨hn,aU⟩)))
      have hlI:((BN l).length:Int)<(l.length:Int):=by omega
      clear ha hb hn aU;(go_wp2_with fail);go_meet
      case rel=>exact⟨rfl,by rw[hd]⟩
     ·have hd:decide (yX l)=false:=decide_eq_false fun h=>(HP5.o.1 h).elim ha fun h=>h.elim hb fun h=>aU h.2
      have hlI:¬((BN l).length:Int)<(l.length:Int):=by omega
      clear ha hb hn aU;(go_wp2_with fail);go_meet
      case rel=>exact⟨rfl,by rw[hd]⟩
    ·have hx:¬tn.toList=[48]:=by rw[ByteArray.toList_eq,HTN.o];exact hn
     have hd:decide (yX l)=false:=decide_eq_false fun h=>(HP5.o.1 h).elim ha fun h=>h.elim hb fun h=>hn h.1;clear ha hb hn
     (go_wp2_with fail);go_meet
     case rel=>exact⟨rfl,by rw[hd]⟩
 obtain⟨K4,rfl⟩:=hcut;subst K4;generalize wc=V at *;by_cases hP5:yX l
 ·have hR:Hid (cI l=5):=lH (by unfold cI;rw[if_pos hP5])
  rw[decide_eq_true hP5];clear hP5;(go_wp2_with fail);go_ret;exact⟨aX hR.out.symm,bM.o⟩
 ·have HP5:=lH hP5
  rw[decide_eq_false hP5];clear hP5;(go_upto_region 8 with fail)
  go_cut [42] (fun v wd=>wd=V/\v=.bool (decide (BP l)))
  case first=>
   have wE:Hid (BP l<->(a≠0\/b≠0)):=lH (by unfold BP;rw[HA.o,HBb.o]);by_cases ha:a=0
   ·subst ha
    by_cases hb:b=0
    ·subst hb
     have hd:decide (BP l)=false:=decide_eq_false fun h=>(wE.o.1 h).elim (fun e=>e rfl) fun e=>e rfl
     (go_wp2_with fail);go_meet
     case rel=>exact⟨rfl,by rw[hd]⟩
    ·have hd:decide (BP l)=true:=decide_eq_true (wE.o.2 (.inr hb))
     have pE:(b != 0)=true:=by simp[hb]
     clear hb;(go_wp2_with fail);go_meet
     case rel=>exact⟨rfl,by rw[hd]⟩
   ·have hd:decide (BP l)=true:=decide_eq_true (wE.o.2 (.inl ha))
    have jA:(a != 0)=true:=by simp[ha]
    clear ha;(go_wp2_with fail);go_meet
    case rel=>exact⟨rfl,by rw[hd]⟩
  obtain⟨K4,rfl⟩:=hcut;subst K4;generalize wc=V at *;by_cases hP2:BP l
  ·have hR:Hid (cI l=2):=lH (by unfold cI;rw[if_neg HP5.o,if_pos hP2])
   rw[decide_eq_true hP2];clear hP2;(go_wp2_with fail);go_ret;exact⟨aX hR.out.symm,bM.o⟩
  ·have wE:=lH hP2
   rw[decide_eq_false hP2];clear hP2;cases is with
   | false=>
    have hR:Hid (cI l=0):=lH (by unfold cI;rw[if_neg HP5.o,if_neg wE.o,if_neg (by rw[HI.o];simp)]);(go_wp2_with fail);go_ret;exact⟨aX hR.out.symm,bM.o⟩
   | true=>
    have mY:gE tn.data.toList=0:=by rw[HTN.o];exact Classical.byContradiction fun h=>wE.o (.inl h)
    have hd0:gE td.data.toList=0:=by
     rw[HTD.o];refine Classical.byContradiction fun h=>wE.o (.inr ?_);unfold rtB;rw[HI.o];exact h
    (go_wp2_with fail);refine(aJf tn td V mY hd0 (HT.o.up bM.o)).mono ?_;rw[HTN.o,HTD.o];rintro e w6 ⟨rfl,fT⟩;have fL:=bW bM fT;clear fT mY hd0;obtain⟨tg,htg⟩:∃t:ByteArray,⟨(Lib.decDigits ((dv (vP l)).gcd (dv (tV l)))).toArray⟩=t:=⟨_,rfl⟩;have HTG:Hid (tg.toList=[49]<->(dv (vP l)).gcd (dv (tV l))=1):=lH (by
     rw[ByteArray.toList_eq,<-htg];exact PQ)
    have HTL:Hid (td.toList=tV l):=lH (by rw[ByteArray.toList_eq];exact HTD.o);rw[htg];clear htg;(go_upto_region 12 with fail)
    go_cut [65] (fun v wd=>wd=w6/\v=.bool (decide (BO l)))
    case first=>
     by_cases h0:td.toList=[48]
     ·have hd:decide (BO l)=true:=decide_eq_true (.inl (by rw[<-HTL.o];exact h0))
      (go_wp2_with fail);go_meet
      case rel=>exact⟨rfl,by rw[hd]⟩
     ·by_cases h1:td.toList=[49]
      ·have hd:decide (BO l)=true:=decide_eq_true (.inr (.inl (by rw[<-HTL.o];exact h1)))
       (go_wp2_with fail);go_meet
       case rel=>exact⟨rfl,by rw[hd]⟩
      ·by_cases h2:tg.toList=[49]
       ·have hd:decide (BO l)=false:=decide_eq_false fun h=>h.elim (fun h=>h0 (HTL.o.trans h)) fun h=>h.elim (fun h=>h1 (HTL.o.trans h)) fun h=>h (HTG.o.1 h2)
        (go_wp2_with fail);go_meet
        case rel=>exact⟨rfl,by rw[hd];simp[h0,h1,h2]⟩
       ·have hd:decide (BO l)=true:=decide_eq_true (.inr (.inr fun h=>h2 (HTG.o.2 h)))
        (go_wp2_with fail);go_meet
        case rel=>exact⟨rfl,by rw[hd];simp[h0,h1,h2]⟩
    obtain⟨K4,rfl⟩:=hcut;subst K4;by_cases hP3:BO l
    ·have hR:Hid (cI l=3):=lH (by unfold cI;rw[if_neg HP5.o,if_neg wE.o,if_pos ⟨HI.o,hP3⟩])
     rw[decide_eq_true hP3];clear hP3;(go_wp2_with fail);go_ret;exact⟨aX hR.out.symm,fL.o⟩
    ·have hR:Hid (cI l=0):=lH (by unfold cI;rw[if_neg HP5.o,if_neg wE.o,if_neg (fun h=>hP3 h.2)])
     rw[decide_eq_false hP3];clear hP3;(go_wp2_with fail);go_ret;exact⟨aX hR.out.symm,fL.o⟩
end
