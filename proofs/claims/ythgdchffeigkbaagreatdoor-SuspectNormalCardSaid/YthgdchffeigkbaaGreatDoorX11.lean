import Derived.Test.YthgdchffeigkbaaGreatDoorX08
import Derived.Test.YthgdchffeigkbaaGreatDoorX09
import Derived.Test.YthgdchffeigkbaaGreatDoorX10
set_option linter.unusedVariables false
set_option linter.unusedSimpArgs false
namespace Go.Proofs.YthgdchffeigkbaaGreatDoor
set_option maxHeartbeats 8000000
set_option maxRecDepth 100000
section
open Go.ChangeShapes Go.WideShapes Go.ChangeAt Go.RowKit
attribute [local go_sem ↓] aE
attribute [local go_sem] aK aH aM
theorem MN {w w':Wo} {base e size n:Nat} {v:Value} {xs:List Value} (h:w.ownsRow base e size v n xs) (hb:Below w.heap.size w w'):w'.ownsRow base e size v n xs:=by
 refine ⟨h.1,?_⟩;rcases h.2 with h1 | ⟨g,cap,cur,h1,h2,h3,h4⟩
 ·exact .inl h1
 ·refine .inr ⟨g,cap,cur,h1,h2,?_,h4⟩
  have hg:g<w.heap.size:=by
   rcases Nat.lt_or_ge g w.heap.size with aW | QJ
   ·exact aW
   ·rw [Array.getElem?_eq_none QJ] at h3;cases h3
  exact (hb.block g hg).trans h3
theorem Z4 {w w':Wo} {B n g o:Nat} {l:List Nat} {row:Option Nat} {ob:Obj} (h:iR w B (some ⟨g,o,none⟩) n l) (hB:B<=w.heap.size) (hg:(w.alloc ob).grownBy w' row) (cP:some g≠row):iR w' w'.heap.size (some ⟨g,o,none⟩) n l:=
 ⟨h.1,fun hn=>by
  obtain ⟨b,off,e,aW,hc⟩:=h.2 hn;injection e with e;injection e with e1 e2;subst e1;subst e2;have hs:=hg.size;simp at hs;exact ⟨g,o,rfl,by omega,fun j u hu=>hg.cell (Lib.cell?_alloc_some _ (hc j u hu)) cP⟩⟩
theorem aCd:∀ L:Nat,1<=L->L<=9->∀ W,(Instr.sliceAt 9 (.string ⟨#[48,48,48,48,48,48,48,48,48]⟩) (some (.int .i64 (L:Int))) none none).run Tryz.prog W=.ok (.string ⟨(List.replicate (9-L) 48).toArray⟩) W:=by
 intro L h1 h9 W;rw [run_sliceAt_string W 9 _ _ _ _ Tryz.underlying9,run_slice_string_l W 9 _ Tryz.underlying9 .i64 (L:Int) (by omega) (by show _<=(9:Int);omega)];have:L=1\/L=2\/L=3\/L=4\/L=5\/L=6\/L=7\/L=8\/L=9:=by omega
 rcases this with rfl | rfl | rfl | rfl | rfl | rfl | rfl | rfl | rfl<;>rfl
theorem aMD {T e:TypeId} {B b:Nat} {bs:List Value} {w w':Wo} (h:Lib.IsBuilder T e B b bs w) (hb:Below w.heap.size w w'):Lib.IsBuilder T e B b bs w':=by
 have key:∀ p,Lib.BuilderAt T e B b p bs w->Lib.BuilderAt T e B b p bs w':=fun p h=>by
  have aW:=h.lt;obtain ⟨h1,v,h2,h3,h4⟩:=h;exact ⟨h1,v,(hb.block b aW).trans h2,MN h3 hb,h4⟩
 exact h.elim (fun h=>.inl (key _ h)) fun h=>.inr (key _ h)
theorem jE (l:List UInt8):(⟨l.toArray⟩:ByteArray).size=l.length:=by simp [ByteArray.size]
def ItP (z:Int) (w:Wo) (e:Ending) (w':Wo):Prop:=Below w.heap.size w w'/\∃ s,e=.returned (.tuple #[.string s,.bool (decide (xI z.natAbs<=2000))])/\(xI z.natAbs<=2000->s=⟨(jD z).toArray⟩)/\s.size<=3000
def TxI (T:TypeId) (w wr:Wo) (V k:Nat) (v4 v5:Value):Prop:=∃ (ps:List Nat) (A:OA) (n c:Nat),v5=.slice A n c/\iR wr wr.heap.size A n (jN k)/\n<=c/\c<=9223372036854775807/\wr.ownsRow w.heap.size T 1 v4 ps.length (bQ ps)/\Below w.heap.size w wr/\V=pv ps+k*1000000000^ps.length/\aFx ps/\(k=0->ps≠[]/\RV ps)/\ps.length<=225
theorem B_ (z:Int) (b:Bool) (A:OA) (n c:Nat) (w:Wo) (h:cG w w.heap.size z b A n c) (ht:dA w) :
    Calls Tryz.prog 117 #[.agg #[.bool b,.slice A n c]] w (ItP z w):=by
 have dB:Hid (Below w.heap.size w (w.alloc (.cells #[.bool b,.slice A n c] 113))):=lH (bA);have cJ:=lH (aG.new w 113 #[.bool b,.slice A n c]);have H1:=lH (h.up dB.o);have HT:=lH (ht.up dB.o);have HEN:=lH h.en;have HEB:=lH h.eb;have hnc:=h.nc;have JJ:=h.cm;obtain ⟨i0,kC,oE,kK,lQ⟩:=info_parts GJ;have DN:=lH kC;have AR:=lH oE;have J0:=lH kK;have JZ:=lH lQ;clear h ht kC oE kK lQ;go_enter Tryz.func117,Tryz.ntmps117
 go_upto_region 1 with fail
 generalize w.alloc (.cells #[.bool b,.slice A n c] 113)=W at *;have p0:=cJ.o.cell 0;have p1:=cJ.o.cell 1;have pl:=cJ.o.lt
 by_cases h0:n=0
 ·subst h0
  have hz:z=0:=by
   have h:=HEN.o;refine Classical.byContradiction fun cP=>?_;rw [jK (by omega)] at h;omega
  subst hz
  go_wp2_with fail
  go_ret2;have hd:decide (xI (0:Int).natAbs<=2000)=true:=by decide+kernel
  have EX:jD 0=[48]:=by unfold jD;rw [show (0:Int).natAbs=0 from rfl,eU (by decide)];rfl
  exact ⟨dB.o,⟨#[48]⟩,by rw [hd];rfl,fun _=>by rw [EX],by decide⟩
 ·have aUO:((n:Int) == 0)=false:=by simp;omega
  by_cases aWf:210<n
  ·have wU:¬xI z.natAbs<=2000:=Nat.not_le.2 (UI (by rw [<-HEN.o];exact aWf))
   have hnI:(210:Int)<(n:Int):=by omega
   go_wp2_with fail
   go_ret2;exact ⟨dB.o,_,by rw [decide_eq_false wU];rfl,fun h=>absurd h wU,by decide⟩
  ·have hnI:(n:Int)<=210:=by omega
   have oE:z.natAbs≠0:=fun e=>h0 (by rw [HEN.o,e];exact hO);clear h0
   go_wp2_with fail
   clear p0 p1 pl aUO hnI
   go_loopg [4,5] z.natAbs (fun k v4 v5 wr=>TxI 216 W wr z.natAbs k v4 v5)
   case atStart=>exact ⟨[],A,n,c,rfl,H1.o.rd,hnc,JJ,World.ownsRow_nil _ _ _ _,bR,by simp [pv],fun x hx=>(by cases hx),fun e=>absurd e oE,by simp⟩
   case round=>
    obtain ⟨ps,A5,n5,c5,rfl,xL,hn5,hc5,ho4,eD,MX,GN,aPe,eC⟩:=hrel;have LY:=lH xL;have HO4:=lH ho4;have dX:=lH eD;have ST:=lH MX;have IM:=lH GN;have HTP:=lH aPe;have HL5:Hid (n5=dK gk):=lH (by rw [<-xL.len];rfl);clear xL ho4 eD MX GN aPe
    by_cases hk:gk=0
    ·subst hk
     have hn5:n5=0:=by rw [HL5.o,hO]
     subst hn5;have aP2:(0:Nat)=0:=rfl;obtain ⟨cP,htp⟩:=HTP.o aP2;have aMY:=lH htp;obtain ⟨L,hL⟩:∃ L,ps.length=L:=⟨_,rfl⟩;have Y6:=lH hL;rw [hL] at HO4 eC;have hL0:0<L:=by rw [<-hL];exact List.length_pos_iff.2 cP
     have HD0:Hid (Dg ps 0=Lib.decDigits z.natAbs):=lH (by rw [aMy cP,ST.o,Nat.zero_mul,Nat.add_zero]);have hde:Dg ps L=[]:=by rw [<-hL];exact aE9 ps
     have HDE:=lH hde;clear hL aP2 cP htp;obtain ⟨A4,c4,e4,GL,X5,hc4⟩:=W_ HO4.o;subst e4;have rF:=lH GL;have HXr:=lH (cJ.o.bl dX.o);have HTr:=lH (HT.o.up (dX.o));have HBr:=lH (dB.o.tm dX.o);have fV:=lH ((Below.refl wr.heap.size wr).alloc lR (.cells #[.pointer none,.slice none 0 0] 233));have iP:Hid (Lib.IsBuilder 233 5 wr.heap.size wr.heap.size (Lib.byteCells (Dg ps L)) (wr.alloc (.cells #[.pointer none,.slice none 0 0] 233))):=lH (.inl ⟨lR,.slice none 0 0,heap_alloc_new wr _,by rw [hde];exact World.ownsRow_nil _ _ _ _,by simp [Value.ownBlock]⟩);clear GL X5 hc4 LY HO4 ST HL5 HTP hde;have hLI:(1:Int)<=(L:Int):=by omega
     have aV1:(L:Int)<=225:=by omega
     go_wp2_with fail
     clear hLI aV1;generalize wr=Wp at *;have hBP:Wp.heap.size<=Wp.heap.size:=lR
     go_loopw [9,10] (fun v9 v10 wr=>∃ k:Nat,k<=L/\v9=.int .i64 ((k:Int)-1)/\Lib.IsBuilder 233 5 Wp.heap.size Wp.heap.size (Lib.byteCells (Dg ps k)) wr/\Below Wp.heap.size Wp wr/\(Dg ps k).length+9*k<=9*L) (fun v9 _ _=>(intOf v9+1).toNat)
     case atStart=>exact ⟨L,lR,rfl,iP.o,fV.o,by rw [HDE.o];simp⟩
     case round=>
      clear iP fV;obtain ⟨k,hkL,rfl,qL,bL,hdl⟩:=hrel;have iP:=lH qL;have bW:=lH bL;have hWs:Wp.heap.size<=wr.heap.size:=bL.size;clear qL bL
      by_cases hk:k=0
      ·subst hk
       have e:(((0:Nat):Int)-1)=-1:=rfl;rw [e];clear e;rw [HD0.o] at iP;have cP:Lib.decDigits z.natAbs≠[]:=fun e=>by have:=nH z.natAbs;rw [e] at this;simp at this
       go_wp2_with fail
       refine (Tryz.Builder_String Wp.heap.size Wp.heap.size (Lib.decDigits z.natAbs) wr iP.o cP).mono ?_;rintro e w3 ⟨rfl,cR⟩;have dR:Hid (Below Wp.heap.size Wp w3):=lH (bW.o.trans cR);have SS:=lH (HXr.o.bl dR.o);have CU:=lH (HBr.o.tm dR.o);obtain ⟨sb,mU⟩:∃ sb:ByteArray,⟨(Lib.decDigits z.natAbs).toArray⟩=sb:=⟨_,rfl⟩;have HSB:=lH mU;rw [mU];obtain ⟨N,hN⟩:∃ N,sb.size=N:=⟨_,rfl⟩;have HNN:Hid (xI z.natAbs=N):=lH (by rw [<-hN,<-mU,jE];rfl);have aV0:N<=2025:=by
        have:N=(Lib.decDigits z.natAbs).length:=by rw [<-hN,<-mU,jE]
        rw [HD0.o,<-this] at hdl;omega
       have hNb:¬9223372036854775807<1+N:=by omega
       clear cR bW iP mU cP hdl;have p0:=SS.o.cell 0;have pl:=SS.o.lt;have hfd:decide (xI z.natAbs<=2000)=decide ((N:Int)<=2000):=by rw [HNN.o];exact decide_eq_decide.2 (by omega)
       have HFD:=lH hfd;clear hfd;have LZ:=lH aV0;have N3:Hid (∀ s,s=(⟨(jD z).toArray⟩:ByteArray)->ItP z w (.returned (.tuple #[.string s,.bool (decide ((N:Int)<=2000))])) w3):=lH fun s hs=>⟨CU.o,s,by rw [HFD.o],fun _=>hs,by
        rw [hs,jE];have h1:=LZ.o;have h2:=HNN.o;unfold xI at h2;unfold jD;rw [iC]
        split<;>simp<;>omega⟩
       cases b with
       | true=>
        have hz:z<0:=by simpa using HEB.o.symm
        have HTX:Hid ((⟨#[45]⟩:ByteArray)++sb=⟨(jD z).toArray⟩):=lH (by
         rw [<-HSB.o];apply ByteArray.ext;unfold jD;rw [if_pos hz];simp)
        go_wp2_with fail
        go_ret2;exact N3.o _ HTX.o
       | false=>
        have hz:¬z<0:=by simpa using HEB.o.symm
        have HTX:Hid (sb=⟨(jD z).toArray⟩):=lH (by
         rw [<-HSB.o];unfold jD;rw [if_neg hz,List.nil_append])
        go_wp2_with fail
        go_ret2;exact N3.o _ HTX.o
      ·obtain ⟨j,rfl⟩:∃ j,k=j+1:=⟨k-1,by omega⟩
       have e:(((j+1:Nat):Int)-1)=(j:Int):=by omega
       rw [e];clear e hk;have hjL:j<L:=hkL;obtain ⟨x,hx⟩:∃ x,ps[j]?=some x:=eO (by have:=Y6.o;omega);have hx9:=IM.o x (cO hx);have hxd:ps.getD j 0=x:=by rw [eY,hx];rfl
       obtain ⟨b4,o4,hA4,dU⟩:=rF.o.form (by omega);subst hA4;have hc:=(rF.o.below bW.o lR).at_ (i:=j) (by omega);rw [hxd] at hc;have hjI:(j:Int)<(L:Int):=by omega
       have a1C:(x:Int) % 18446744073709551616=(x:Int):=by omega
       have HXJ:=lH hx;have HDL:=lH (aMx hx IM.o);have D_:Hid ((intOf (Value.int .i64 ((j:Int)-1))+1).toNat<(intOf (Value.int .i64 (j:Int))+1).toNat):=lH (by simp [intOf]);clear hxd hx
       go_wp2_with fail
       refine (aIy x (by omega) wr (HTr.o.up (bW.o.mono lR))).mono ?_;rintro e w3 ⟨rfl,cR⟩;have dR:=lH (bW.o.trans (cR.mono hWs));have aGd:=lH (aMD iP.o cR);have hW3:Wp.heap.size<=w3.heap.size:=dR.o.size;obtain ⟨ds,hds⟩:∃ ds,Lib.decDigits x=ds:=⟨_,rfl⟩;have HDS:=lH hds;rw [hds] at HDL;rw [hds];have aVu:=HDL.o.1;have aVt:=HDL.o.2;clear cR hc bW iP hds
       by_cases hjt:j+1=L
       ·have aU7:¬(j:Int)<(L:Int)-1:=by omega
        have HDJ:Hid (Dg ps j=ds):=lH (by rw [<-HDS.o];exact aMv HXJ.o (by rw [Y6.o];exact hjt));have HD1:Hid (Dg ps (j+1)=[]):=lH (by rw [hjt,<-Y6.o];exact aE9 ps);rw [HD1.o] at aGd
        go_wp2_with fail
        refine (BD Wp.heap.size Wp.heap.size _ ⟨ds.toArray⟩ w3 aGd.o (by rw [jE,Lib.byteCells_length];simp;omega) hW3).mono ?_;rintro e w4 ⟨⟨v4,rfl⟩,aEI,dU⟩;have aBB:Hid (Lib.IsBuilder 233 5 Wp.heap.size Wp.heap.size (Lib.byteCells (Dg ps j)) w4):=lH (.inr (by rw [HDJ.o];exact aEI));have bK:=lH (dR.o.trans dU);have AQ:Hid ((Dg ps j).length+9*j<=9*L):=lH (by rw [HDJ.o];omega);clear aEI dU aGd dR
        go_wp2_with fail
        go_roundw
        case rel=>exact ⟨j,rC hjL,rfl,aBB.o,bK.o,AQ.o⟩
        case measure=>exact D_.o
       ·have aU7:(j:Int)<(L:Int)-1:=by omega
        have HDJ:Hid (Dg ps j=Dg ps (j+1)++List.replicate (9-ds.length) 48++ds):=lH (by rw [<-HDS.o];exact aMw HXJ.o (by rw [Y6.o];omega) IM.o aMY.o);have CA:∀ W,(Instr.sliceAt 9 (.string ⟨#[48,48,48,48,48,48,48,48,48]⟩) (some (.int .i64 (ds.length:Int))) none none).run Tryz.prog W=.ok (.string ⟨(List.replicate (9-ds.length) 48).toArray⟩) W:=aCd ds.length aVu aVt;have hss:(⟨ds.toArray⟩:ByteArray).size=ds.length:=jE ds
        go_wp2_with fail
        refine (BD Wp.heap.size Wp.heap.size _ ⟨Array.replicate (9-ds.length) 48⟩ w3 aGd.o (by rw [Lib.byteCells_length];simp [ByteArray.size];omega) hW3).mono ?_;rintro e w4 ⟨⟨v4,rfl⟩,aEI,dU⟩;have aBB:Hid (Lib.IsBuilder 233 5 Wp.heap.size Wp.heap.size (Lib.byteCells (Dg ps (j+1)++List.replicate (9-ds.length) 48)) w4):=lH (.inr (by
         rw [Lib.byteCells_append];have e:Lib.strCells ⟨Array.replicate (9-ds.length) 48⟩=Lib.byteCells (List.replicate (9-ds.length) 48):=by rw [Lib.strCells_eq];simp
         rw [<-e];exact aEI))
        have bK:=lH (dR.o.trans dU);have hW4:Wp.heap.size<=w4.heap.size:=bK.o.size;clear aEI dU aGd dR CA hss
        go_wp2_with fail
        refine (BD Wp.heap.size Wp.heap.size _ ⟨ds.toArray⟩ w4 aBB.o (by rw [jE,Lib.byteCells_length,iC,o3];omega) hW4).mono ?_;rintro e w5 ⟨⟨v5,rfl⟩,aQr,eD⟩;have aXV:Hid (Lib.IsBuilder 233 5 Wp.heap.size Wp.heap.size (Lib.byteCells (Dg ps j)) w5):=lH (.inr (by rw [HDJ.o,Lib.byteCells_append];exact aQr));have dX:=lH (bK.o.trans eD);have AQ:Hid ((Dg ps j).length+9*j<=9*L):=lH (by rw [HDJ.o,iC,iC,o3];omega);clear aQr eD aBB bK
        go_wp2_with fail
        go_roundw
        case rel=>exact ⟨j,rC hjL,rfl,aXV.o,dX.o,AQ.o⟩
        case measure=>exact D_.o
    ·have a2b:0<n5:=by rw [HL5.o,jK hk];omega
     have kF:0<gk:=by omega
     have a2H:ps.length<225:=aAN (v:=z.natAbs) (by rw [<-HEN.o];omega) kF (by rw [ST.o];omega);have aUL:n5<=35184372088832:=by
      rw [HL5.o];refine cV (jU (n:=z.natAbs) ?_) (by rw [<-HEN.o];omega);have h1:1<=1000000000^ps.length:=Nat.one_le_pow _ _ (by decide);have h2:gk*1<=gk*1000000000^ps.length:=Nat.mul_le_mul_left _ h1;rw [ST.o];omega
     go_wp2_with fail
     refine (aJz A5 n5 c5 1000000000 (jN gk) wr LY.o (gH _) aUL (by decide) (by decide)).mono ?_;rw [d8];rintro e w6 ⟨fQ,g6,n6,l6,rfl,xK,hd6,X1,hn6,hg6⟩;have fV:=lH (dX.o.tm fQ);have HO6:=lH (MN HO4.o fQ);have V_:=lH xK;have HD6:=lH hd6;have HV6:=lH X1;obtain ⟨r,hr⟩:∃ r,gk % 1000000000=r:=⟨_,rfl⟩;have HR:=lH hr;rw [hr];have hr9:r<1000000000:=by rw [<-hr];exact Nat.mod_lt _ (by decide)
     have HNE:Hid (some g6≠u4.ownBlock):=lH fun e=>by have:=(HO4.o.lt g6 e.symm).2;omega
     have HC6:=lH (cell_one_new w6 (.int .u32 (r:Int)) 216);clear fQ xK hd6 X1 LY HO4 dX hr
     go_wp2_with (at_builtin;refine wpList_append_own_at _ rfl (.tmp 31) (.tmp 33) _ rfl W.heap.size 216 i0 _ 1 4 Tryz.underlying111 DN.o AR.o J0.o JZ.o rfl (by omega) u4 _ _ rfl (HO6.o.alloc _) ⟨_,0,none⟩ 1 1 [.int .u32 (r:Int)] rfl rfl HC6.o ?k1 ?k2 ?k3 ?k4 ?_)
     case k1=>intro u hu;rw [List.mem_singleton.1 hu];rfl
     case k2=>simp only [maxLen];omega
     case k3=>omega
     case k4=>have:=fV.o.size;simp;omega
     intro v7 w7 hown7 hg7 hnil7 hat7;have aPO:∀ g,u4.ownBlock=some g->W.heap.size<=g:=fun g hg=>((HO6.o.lt g hg).1);have iM:=lH ((fV.o.alloc fV.o.size (.cells #[.int .u32 (r:Int)] 216)).grown hg7 (by have:=fV.o.size;simp;omega) aPO);have NV:=lH (Z4 V_.o lR hg7 HNE.o);have Y3:Hid (w7.ownsRow W.heap.size 216 1 v7 (ps++[r]).length (bQ (ps++[r]))):=lH (by
      rw [iC,List.length_singleton];unfold bQ at hown7 ⊢;rw [List.map_append];exact hown7)
     clear hown7 hg7 hnil7 hat7 aPO fV HO6 V_ HC6 HNE
     go_wp2_with fail
     refine (jG false (some ⟨g6,0,none⟩) n6 n6 l6 w7 NV.o HD6.o lR (by omega)).mono ?_;rw [HV6.o];rintro e w8 ⟨e_,b8,A8,n8,c8,rfl,h8⟩;have dF:=lH (iM.o.tm e_);have oY:=lH (MN Y3.o e_);have LX:Hid (iR w8 w8.heap.size A8 n8 (jN (gk / 1000000000))):=lH h8.rd;have hn8:=h8.nc;have hc8:=h8.cm;clear e_ h8 iM Y3;have DK:Hid (z.natAbs=pv (ps++[r])+gk / 1000000000*1000000000^(ps++[r]).length):=lH (by
      rw [ST.o,XD,iC,List.length_singleton,Nat.pow_succ];have h:=Nat.div_add_mod gk 1000000000;rw [HR.o] at h;generalize gk / 1000000000=q at *;generalize 1000000000^ps.length=X at *;rw [<-h];grind)
     have HTT:Hid (gk / 1000000000=0->ps++[r]≠[]/\RV (ps++[r])):=lH fun h0=>⟨by simp,fun x hx=>by
      have h:=Nat.div_add_mod gk 1000000000;rw [HR.o,h0] at h;have:x=r:=by simpa using hx.symm
      omega⟩
     have AQ:Hid ((ps++[r]).length<=225):=lH (by rw [iC,List.length_singleton];omega);have hfd:∀ w,(Instr.field 113 (.agg #[.bool b8,.slice A8 n8 c8]) 1).run Tryz.prog w=.ok (.slice A8 n8 c8) w:=fun _=>by kernel_rfl
     have Y4:Hid (gk / 1000000000<gk):=lH (by omega)
     go_wp2_with fail
     go_roundg (gk / 1000000000)
     case rel=>exact ⟨ps++[r],A8,n8,c8,rfl,LX.o,hn8,hc8,oY.o,dF.o,DK.o,Z9 IM.o hr9,HTT.o,AQ.o⟩
     case measure=>exact Y4.o
theorem QD (l:List UInt8):Lib.hasPrefix (45::l) [45]=true:=by simp [Lib.hasPrefix]
theorem aCt (l:List UInt8):Lib.trimPrefix (45::l) [45]=l:=by unfold Lib.trimPrefix;rw [if_pos (QD l)];rfl
theorem aJ1 {l:List UInt8} (h:jM l):Lib.hasPrefix l [45]=false:=by
 cases l with
 | nil=>rfl
 | cons c r=>
  have hc:=(h c (List.mem_cons_self ..)).1;have:((45:UInt8) == c)=false:=by
   cases hb:((45:UInt8) == c) with
   | false=>rfl
   | true=>have:=eq_of_beq hb;subst this;exact absurd hc (by decide)
  simp [Lib.hasPrefix,List.isPrefixOf,this]
theorem aOJ {l:List UInt8} (h:jM l):Lib.trimPrefix l [45]=l:=by unfold Lib.trimPrefix;rw [aJ1 h];rfl
theorem aET (l:List UInt8) (n:Nat) (h:n<=l.length):(⟨l.toArray⟩:ByteArray).extract 0 n=⟨(l.take n).toArray⟩:=by
 apply ByteArray.ext;rw [ByteArray.data_extract];simp
theorem aEU (l:List UInt8) (n:Nat):(⟨l.toArray⟩:ByteArray).extract n l.length=⟨(l.drop n).toArray⟩:=by
 apply ByteArray.ext;rw [ByteArray.data_extract];apply Array.ext';simp;exact nW (by simp)
def JC (neg:Bool) (l:List UInt8):Int:=if neg then -(dv l:Int) else dv l
def rdT (neg:Bool) (l:List UInt8):ByteArray:=⟨((if neg then [45] else [])++l).toArray⟩
theorem aHT (w:Wo) (B:Nat):cG w B 0 false none 0 0:=⟨by simp,by rw [Int.natAbs_zero,hO],by rw [Int.natAbs_zero,lX];exact zK _ _ _,lR,by decide⟩
theorem aHU {w:Wo} {B v:Nat} {A:OA} {n c:Nat} (h:cG w B (v:Int) false A n c) (m:Bool):cG w B (BJ m v) (m && decide (0<n)) A n c:=by
 have hn:n=dK v:=by rw [h.en,Int.natAbs_natCast]
 refine ⟨?_,by rw [EO];exact hn,by rw [EO];have:=h.rd;rwa [Int.natAbs_natCast] at this,h.nc,h.cm⟩;rw [W6];congr 1
 refine decide_eq_decide.2 ?_;rw [hn]
 by_cases h0:v=0
 ·subst h0;rw [hO]
 ·rw [jK h0];omega
theorem aCD (l:List UInt8) (k:Nat) (h:k<=l.length) (W:Wo):(Instr.sliceAt 9 (.string ⟨l.toArray⟩) none (some (.int .i64 (k:Int))) none).run Tryz.prog W=.ok (.string ⟨(l.take k).toArray⟩) W:=by
 rw [run_sliceAt_string W 9 _ _ _ _ Tryz.underlying9,run_slice_string_h W 9 _ Tryz.underlying9 .i64 (k:Int) (by omega) (by rw [jE];omega),kU,aET l k h]
theorem O1 (l:List UInt8) (k:Nat) (h:k<=l.length) (W:Wo):(Instr.sliceAt 9 (.string ⟨l.toArray⟩) (some (.int .i64 (k:Int))) none none).run Tryz.prog W=.ok (.string ⟨(l.drop k).toArray⟩) W:=by
 rw [run_sliceAt_string W 9 _ _ _ _ Tryz.underlying9,run_slice_string_l W 9 _ Tryz.underlying9 .i64 (k:Int) (by omega) (by rw [jE];omega),kU,jE,aEU l k]
def aWm (g2 g4:Nat) (l:List UInt8) (w wr:Wo) (k:Nat) (v0:Value):Prop:=∃ (dn rs:List UInt8) (A:OA) (n c:Nat),v0=.string ⟨rs.toArray⟩/\l=dn++rs/\k=rs.length/\(dn=[]\/rs.length % 9=0)/\Below w.heap.size w wr/\aG wr g2 113 #[.bool false,.slice none 0 0]/\aG wr g4 113 #[.bool false,.slice A n c]/\cG wr wr.heap.size (dv dn:Int) false A n c
theorem zJ (neg:Bool) (l:List UInt8) (hd:jM l) (hl:l.length<=1000000) (w:Wo) :
    Calls Tryz.prog 113 #[.string (rdT neg l)] w (LgP (JC neg l) w):=by
 have HP:Hid (Lib.hasPrefix (rdT neg l).data.toList [45]=neg):=lH (by cases neg;exact aJ1 hd;exact QD l);have HT:Hid (Lib.trimPrefix (rdT neg l).data.toList [45]=l):=lH (by cases neg;exact aOJ hd;exact aCt l);have HD:=lH hd;have dB:Hid (Below w.heap.size w ((w.alloc (.cells #[.bool false,.slice none 0 0] 113)).alloc (.cells #[.bool false,.slice none 0 0] 113))):=lH ((bA).alloc (by simp) _);have cJ:Hid (aG ((w.alloc (.cells #[.bool false,.slice none 0 0] 113)).alloc (.cells #[.bool false,.slice none 0 0] 113)) w.heap.size 113 #[.bool false,.slice none 0 0]):=lH ((aG.new w _ _).alloc _);have dI:Hid (aG ((w.alloc (.cells #[.bool false,.slice none 0 0] 113)).alloc (.cells #[.bool false,.slice none 0 0] 113)) (w.heap.size+1) 113 #[.bool false,.slice none 0 0]):=lH (aG.new_ (by simp));generalize rdT neg l=s at *;clear hd
 go_enter Tryz.func113,Tryz.ntmps113
 go_wp2_with fail
 refine (Tryz.strings_HasPrefix s ⟨#[45]⟩ _).mono ?_;rintro e w1 ⟨he,hw⟩;subst hw;rw [show (⟨#[45]⟩:ByteArray).data.toList=[45] from rfl,HP.o] at he;subst he
 go_wp2_with fail
 refine (Tryz.strings_TrimPrefix s ⟨#[45]⟩ _).mono ?_;rintro e w1 ⟨he,hw⟩;subst hw;rw [show (⟨#[45]⟩:ByteArray).data.toList=[45] from rfl,HT.o] at he;subst he
 go_wp2_with fail
 generalize ((w.alloc (.cells #[.bool false,.slice none 0 0] 113)).alloc (.cells #[.bool false,.slice none 0 0] 113))=W at *;obtain ⟨g4,hg4⟩:∃ g,w.heap.size+1=g:=⟨_,rfl⟩;rw [hg4] at dI;have HG4:=lH hg4;rw [hg4];clear hg4;have aEb:w.heap.size≠g4:=by have:=HG4.o;omega
 have aQa:w.heap.size<=g4:=by have:=HG4.o;omega
 go_loopg [0] l.length (fun k v0 wr=>aWm w.heap.size g4 l w wr k v0)
 case atStart=>exact ⟨[],l,none,0,0,rfl,rfl,rfl,.inl rfl,dB.o,cJ.o,dI.o,aHT _ _⟩
 case round=>
  clear dB cJ dI HP HT;obtain ⟨dn,rs,A,n,c,rfl,hlr,hgk,hmd,hbr,I0,hp4,ha⟩:=hrel;have HLR:=lH hlr;have HGK:=lH hgk;have HMD:=lH hmd;have qS:=lH hbr;have tO:=lH I0;have s_:=lH hp4;have HA:=lH ha;have HAN:Hid (n=dK (dv dn)):=lH (by rw [ha.en,Int.natAbs_natCast]);have HSR:Hid ((⟨rs.toArray⟩:ByteArray).size=rs.length):=lH (jE rs);clear hlr hgk hmd hbr I0 hp4 ha
  by_cases hrs:rs.length=0
  ·have UW:(⟨rs.toArray⟩:ByteArray).size=0:=by rw [HSR.o,hrs]
   have hdn:dn=l:=by rw [HLR.o,List.eq_nil_of_length_eq_zero hrs,List.append_nil]
   rw [hdn] at HA HAN;clear hdn hrs;have z0:=s_.o.cell 0;have z1:=s_.o.cell 1;have zf:=s_.o.frozen;have zl:=s_.o.lt;have N3:Hid (∀ b,b=(neg && decide (0<n))->cG (wr.setCell ⟨g4,0,none⟩ (.bool b)) (wr.setCell ⟨g4,0,none⟩ (.bool b)).heap.size (JC neg l) b A n c):=lH fun b hb=>by
    rw [hb];exact (aHU HA.o neg).keep (s_.o.cell 0) (by simp) _
   have HPX:Hid (∀ b,aG (wr.setCell ⟨g4,0,none⟩ (.bool b)) g4 113 #[.bool b,.slice A n c]/\aG (wr.setCell ⟨g4,0,none⟩ (.bool b)) w.heap.size 113 #[.bool false,.slice none 0 0]/\Below w.heap.size w (wr.setCell ⟨g4,0,none⟩ (.bool b))):=lH fun b=>⟨s_.o.set_at (i:=0) (.bool b) (by simp),tO.o.far aEb _,qS.o.setCell aQa _⟩;have qK:w.heap.size<=w.heap.size:=lR;have hc3:neg=false\/(neg=true/\n=0)\/(neg=true/\0<n):=by cases neg<;>simp<;>omega
   rcases hc3 with rfl | ⟨rfl,rfl⟩ | ⟨rfl,nO⟩
   ·have hq0:=UW
    go_upto_region 10 with fail
    clear z0 z1 zf zl;obtain ⟨yA,xJ,hx3⟩:=HPX.o false;have hx4:=N3.o false rfl;have cJ:=lH yA;have dI:=lH xJ;have SS:=lH hx3;have HX4:=lH hx4;clear yA xJ hx3 hx4 N3 HPX;generalize wr.setCell ⟨g4,0,none⟩ (.bool false)=V at *;have y0:=cJ.o.cell 0;have y1:=cJ.o.cell 1;have yl:=cJ.o.lt;have z0:=dI.o.cell 0;have z1:=dI.o.cell 1;have zf:=dI.o.frozen;have zl:=dI.o.lt
    go_wp2_with fail
    generalize fD:(V.setCell ⟨_,0,none⟩ _).setCell ⟨_,1,none⟩ _=W9;have iK:=lH (nU (e:=.returned (.agg #[.bool false,.slice A n c])) SS.o qK dI.o (by simp) (by simp) HX4.o rfl);rw [fD] at iK;have cQ:Hid (aG W9 _ 113 #[.bool false,.slice A n c]):=lH (by rw [<-fD];exact cD dI.o);clear fD z0 z1 zf zl;have q0:=cQ.o.cell 0;have q1:=cQ.o.cell 1;exact bodyPost_ret (v:=.agg #[.bool false,.slice A n c]) (by simp [results,Tryz.results113,go_sem,q0,q1]) rfl iK.o
   ·have h00:=UW
    go_upto_region 10 with fail
    clear z0 z1 zf zl;obtain ⟨yA,xJ,hx3⟩:=HPX.o false;have hx4:=N3.o false (by simp);have cJ:=lH yA;have dI:=lH xJ;have SS:=lH hx3;have HX4:=lH hx4;clear yA xJ hx3 hx4 N3 HPX;generalize wr.setCell ⟨g4,0,none⟩ (.bool false)=V at *;have y0:=cJ.o.cell 0;have y1:=cJ.o.cell 1;have yl:=cJ.o.lt;have z0:=dI.o.cell 0;have z1:=dI.o.cell 1;have zf:=dI.o.frozen;have zl:=dI.o.lt
    go_wp2_with fail
    generalize fD:(V.setCell ⟨_,0,none⟩ _).setCell ⟨_,1,none⟩ _=W9;have iK:=lH (nU (e:=.returned (.agg #[.bool false,.slice A 0 c])) SS.o qK dI.o (by simp) (by simp) HX4.o rfl);rw [fD] at iK;have cQ:Hid (aG W9 _ 113 #[.bool false,.slice A 0 c]):=lH (by rw [<-fD];exact cD dI.o);clear fD z0 z1 zf zl;have q0:=cQ.o.cell 0;have q1:=cQ.o.cell 1;exact bodyPost_ret (v:=.agg #[.bool false,.slice A 0 c]) (by simp [results,Tryz.results113,go_sem,q0,q1]) rfl iK.o
   ·have a2d:(0:Int)<(n:Int):=by omega
    go_upto_region 10 with fail
    clear z0 z1 zf zl;obtain ⟨yA,xJ,hx3⟩:=HPX.o true;have hx4:=N3.o true (by simp [nO]);have cJ:=lH yA;have dI:=lH xJ;have SS:=lH hx3;have HX4:=lH hx4;clear yA xJ hx3 hx4 N3 HPX;generalize wr.setCell ⟨g4,0,none⟩ (.bool true)=V at *;have y0:=cJ.o.cell 0;have y1:=cJ.o.cell 1;have yl:=cJ.o.lt;have z0:=dI.o.cell 0;have z1:=dI.o.cell 1;have zf:=dI.o.frozen;have zl:=dI.o.lt
    go_wp2_with fail
    generalize fD:(V.setCell ⟨_,0,none⟩ _).setCell ⟨_,1,none⟩ _=W9;have iK:=lH (nU (e:=.returned (.agg #[.bool true,.slice A n c])) SS.o qK dI.o (by simp) (by simp) HX4.o rfl);rw [fD] at iK;have cQ:Hid (aG W9 _ 113 #[.bool true,.slice A n c]):=lH (by rw [<-fD];exact cD dI.o);clear fD z0 z1 zf zl;have q0:=cQ.o.cell 0;have q1:=cQ.o.cell 1;exact bodyPost_ret (v:=.agg #[.bool true,.slice A n c]) (by simp [results,Tryz.results113,go_sem,q0,q1]) rfl iK.o
  ·have UW:(0:Int)<((⟨rs.toArray⟩:ByteArray).size:Int):=by rw [HSR.o];omega
   obtain ⟨L,hL⟩:∃ L,rs.length=L:=⟨_,rfl⟩;rw [hL] at hrs HSR HMD HGK;have AQ:=lH hL;obtain ⟨q,hq⟩:∃ q,(L-1) % 9=q:=⟨_,rfl⟩;have HQ:=lH hq;have hqL:q+1<=L:=by omega
   have hq9:q+1<=9:=by omega
   have hLl:L<=1000000:=by rw [<-hL];refine cV ?_ hl;rw [HLR.o,iC];omega
   have hdl:dn.length<=1000000:=by refine cV ?_ hl;rw [HLR.o,iC];omega
   obtain ⟨ch,hch⟩:∃ ch,rs.take (q+1)=ch:=⟨_,rfl⟩;obtain ⟨rt,SM⟩:∃ rt,rs.drop (q+1)=rt:=⟨_,rfl⟩;have aH7:∀ W,(Instr.sliceAt 9 (.string ⟨rs.toArray⟩) none (some (.int .i64 ((q:Int)+1))) none).run Tryz.prog W=.ok (.string ⟨ch.toArray⟩) W:=fun W=>by
    have:=aCD rs (q+1) (by omega) W;rw [hch] at this;exact this
   have aD3:∀ W,(Instr.sliceAt 9 (.string ⟨rs.toArray⟩) (some (.int .i64 ((q:Int)+1))) none none).run Tryz.prog W=.ok (.string ⟨rt.toArray⟩) W:=fun W=>by
    have:=O1 rs (q+1) (by omega) W;rw [SM] at this;exact this
   have aWQ:=lH aD3;have aIr:jM ch:=by
    rw [<-hch];exact jM.take (fun x hx=>HD.o x (by rw [HLR.o];exact List.mem_append_right _ hx)) _
   have aIq:jM dn:=fun x hx=>HD.o x (by rw [HLR.o];exact List.mem_append_left _ hx);have wV:ch.length=q+1:=by rw [<-hch,jP];omega
   have HPU:Hid (Lib.parseUintB 32 (⟨ch.toArray⟩:ByteArray).data.toList=.ok (dv ch)):=lH (by rw [show (⟨ch.toArray⟩:ByteArray).data.toList=ch from by simp];exact aT4 aIr (fun e=>by rw [e] at wV;simp at wV) (by omega));have hdc:dv ch<1000000000:=by
    have h1:=G3 aIr;have h2:10^ch.length<=10^9:=Nat.pow_le_pow_right (by decide) (by omega);omega
   have HSC:Hid ((⟨ch.toArray⟩:ByteArray).size<=9223372036854775806):=lH (by rw [jE];omega);have HVA:Hid ((dv dn:Int)*1000000000+(dv ch:Int)=(dv (dn++ch):Int)):=lH (by
    rw [aIG dn ch (HMD.o.imp id fun h=>by omega),Int.natCast_add,Int.natCast_mul];rfl)
   have aSg:Hid (l=(dn++ch)++rt):=lH (by rw [HLR.o,List.append_assoc,<-hch,<-SM,List.take_append_drop]);have aRB:Hid (rt.length=L-(q+1)):=lH (by rw [<-SM,EI];omega);have HR9:Hid (rt.length % 9=0):=lH (by rw [aRB.o];omega);have R5:Hid (rt.length<gk):=lH (by rw [aRB.o,HGK.o];omega);have hdd:=NB aIq;have HS6:Hid (dK ((dv dn:Int)*1000000000).natAbs<=35184372088832):=lH (by
    refine cV (eT _ _) ?_;rw [Int.natAbs_natCast,show (1000000000:Int).natAbs=1000000000 from rfl,rZ (n:=1000000000) (by decide) (by decide)];omega)
   have HS7:Hid (dK (dv ch:Int).natAbs<=35184372088832):=lH (by
    rw [Int.natAbs_natCast];have:=NB aIr;omega)
   have HNN:Hid (n<=1000000):=lH (by rw [HAN.o];omega);have aUv:((L:Int)-1).tmod 9=(q:Int):=by
    rw [<-hq,show ((L:Int)-1)=((L-1:Nat):Int) from by omega];rfl
   have gW:=HSR.o;have hL1:(1:Int)<=(L:Int):=by omega
   clear hq hch SM aD3 aIr aIq wV hL
   go_wp2_with fail
   refine (Tryz.strconv_ParseUint_10_at32_ok ⟨ch.toArray⟩ HSC.o (dv ch) HPU.o wr).mono ?_;rintro e w3 ⟨rfl,hw3⟩;have cR:Below wr.heap.size wr w3:=by
    rcases hw3 with rfl | rfl
    ·exact bR
    ·exact Lib.bytesWorld_below _ _ _
   have aSH:=lH (qS.o.tm cR);have yL:=lH (tO.o.bl cR);have CT:=lH (s_.o.bl cR);have HA3:=lH (HA.o.up cR);clear cR hw3 qS tO s_ HA aH7 aUv gW hL1 UW;have qS:=aSH;have tO:=yL;have s_:=CT;have HA:=HA3;clear aSH yL CT HA3;generalize wr=wq at *;generalize w3=wr at *;have z0:=s_.o.cell 0;have z1:=s_.o.cell 1;have zl:=s_.o.lt;have U9:(dv ch:Int) % 18446744073709551616=(dv ch:Int):=by omega
   have aMn:IntKind.i64.wrap (dv ch:Int)=(dv ch:Int):=Go.IntWalk.i64_in _ (by omega)
   go_upto_region 7 with fail
   refine aJ (S:=fun w'=>w'.cell? ⟨g4,0,none⟩=some (.bool false)/\w'.cell? ⟨g4,1,none⟩=some (.slice A n c)) 7 _ (by kernel_rfl) (by kernel_rfl) rfl ⟨z0,z1⟩ (fun hHeld=>?_);simp only [lA,List.take_zero];refine cK 0 (v:=?_) rfl (by kernel_rfl) (fun _ _ _ h=>h) (by rfl) ?_ hHeld ?_;rotate_left 1
   ·intro w' hSw;obtain ⟨s0,s1⟩:=hSw;go_simp<;>with_reducible rfl
   try simp only [Act.put,bP,bO,bN]
   refine cK 3 (v:=?_) rfl (by kernel_rfl) (fun _ _ _ h=>h) (by rfl) ?_ hHeld ?_;rotate_left 1
   ·intro w' hSw;obtain ⟨s0,s1⟩:=hSw;go_simp<;>with_reducible rfl
   try simp only [Act.put,bP,bO,bN]
   refine cK 4 (v:=?_) rfl (by kernel_rfl) (fun _ _ _ h=>h) (by rfl) ?_ hHeld ?_;rotate_left 1
   ·intro w' hSw;obtain ⟨s0,s1⟩:=hSw;go_simp<;>with_reducible rfl
   try simp only [Act.put,bP,bO,bN]
   clear z0 z1;refine aU 1 (by kernel_rfl) rfl (fun K hK=>?_);go_simp;refine (xV 1000000000 _ (by decide) (by decide)).mono ?_;rintro e w5 ⟨eD,f5,C5,i5,j5,rfl,h5⟩;have dX:=lH ((aD (Below.refl wr.heap.size wr)).trans eD);obtain ⟨M,hM,h5⟩:∃ M:Int,M=1000000000/\cG w5 w5.heap.size M f5 C5 i5 j5:=⟨_,rfl,h5⟩;have HM:=lH hM;have hi5:i5<=1:=by rw [h5.en,hM];exact jV (show (1000000000:Nat)<4294967296^1 by decide)
   have H5:=lH h5;clear eD h5 hM;go_simp;refine hK.out _ _ ?_ (fun hHeld=>?_)
   ·exact ⟨(s_.o.bl dX.o).cell 0,(s_.o.bl dX.o).cell 1⟩
   clear hK K
   try simp only [Act.put,bP,bO,bN]
   refine aU 2 (by kernel_rfl) rfl (fun K hK=>?_);go_simp;refine (iO (dv dn:Int) M false A n c f5 C5 i5 j5 w5 (HA.o.up dX.o) H5.o (cV (Nat.add_le_add HNN.o hi5) (by decide))).mono ?_;rintro e w6 ⟨fQ,f6,C6,i6,j6,rfl,h6⟩;have fV:=lH (dX.o.tm fQ);have H6:=lH h6;clear fQ h6 H5;go_simp;refine hK.out _ _ ?_ (fun hHeld=>?_)
   ·exact ⟨(s_.o.bl fV.o).cell 0,(s_.o.bl fV.o).cell 1⟩
   clear hK K
   try simp only [Act.put,bP,bO,bN]
   refine aU 5 (by kernel_rfl) rfl (fun K hK=>?_);go_simp;refine (xV (dv ch:Int) _ (by omega) (by omega)).mono ?_;rintro e w7 ⟨gY,f7,C7,i7,j7,rfl,h7⟩;have iM:=lH (fV.o.tm gY);have H7:=lH h7;have H67:=lH (H6.o.up gY);clear gY h7 H6;go_simp;refine hK.out _ _ ?_ (fun hHeld=>?_)
   ·exact ⟨(s_.o.bl iM.o).cell 0,(s_.o.bl iM.o).cell 1⟩
   clear hK K
   try simp only [Act.put,bP,bO,bN]
   refine aU 6 (by kernel_rfl) rfl (fun K hK=>?_);go_simp;refine (NM ((dv dn:Int)*M) (dv ch:Int) f6 C6 i6 j6 f7 C7 i7 j7 w7 H67.o H7.o (by rw [H67.o.en,HM.o];exact HS6.o) (by rw [H7.o.en];exact HS7.o)).mono ?_;rw [HM.o,HVA.o];rintro e w8 ⟨e_,f8,C8,i8,j8,rfl,h8⟩;have dF:=lH (iM.o.tm e_);have H8:=lH h8;clear e_ h8 H67 H7;go_simp;refine hK.out _ _ ?_ (fun hHeld=>?_)
   ·exact ⟨(s_.o.bl dF.o).cell 0,(s_.o.bl dF.o).cell 1⟩
   clear hK K
   try simp only [Act.put,bP,bO,bN]
   refine wpAnyH_done (by kernel_rfl) ?_ _;refine aP (by rfl) ?_;have hf8:f8=false:=by rw [H8.o.eb];exact decide_eq_false (Int.not_lt.2 (Int.natCast_nonneg _))
   subst hf8;have EA:=lH (s_.o.bl dF.o);have AP:=lH (tO.o.bl dF.o);have aXW:=lH (qS.o.tm dF.o);have a3W:=aSg;have z0:=EA.o.cell 0;have z1:=EA.o.cell 1;have zf:=EA.o.frozen;have zl:=EA.o.lt
   go_upto_region 8 with fail
   clear z0 z1 zf zl;generalize DF:(w8.setCell ⟨g4,0,none⟩ _).setCell ⟨g4,1,none⟩ _=w9;have sZ:Hid (aG w9 g4 113 #[.bool false,.slice C8 i8 j8]):=lH (by rw [<-DF];exact cD EA.o);have NY:Hid (aG w9 w.heap.size 113 #[.bool false,.slice none 0 0]):=lH (by rw [<-DF];exact (AP.o.far aEb _).far aEb _);have cQ:Hid (Below w.heap.size w w9):=lH (by rw [<-DF];exact cW aXW.o aQa);have H9:Hid (cG w9 w9.heap.size (dv (dn++ch):Int) false C8 i8 j8):=lH (by rw [<-DF];exact (H8.o.keep (EA.o.cell 0) (by simp) _).keep ((EA.o.set_ 0 (.bool false)).cell 1) (by simp) _);clear DF;have aD3:=aWQ.o
   go_wp2_with fail
   go_roundg rt.length
   case rel=>exact ⟨dn++ch,rt,C8,i8,j8,rfl,aSg.o,rfl,.inr HR9.o,cQ.o,NY.o,sZ.o,H9.o⟩
   case measure=>exact R5.o
def dgB (c:UInt8):Bool:=decide (48<=c.toNat/\c.toNat<=57)
def fL (l:List UInt8):Int:=if l.all dgB then (if l=[]\/(1<l.length/\l.head?=some 48) then 5 else if 2000<l.length then 2 else 0) else 5
theorem YL {l:List UInt8}:l.all dgB=true<->jM l:=by
 rw [List.all_eq_true];unfold jM NR dgB;exact ⟨fun h c hc=>by simpa using h c hc,fun h c hc=>by simpa using h c hc⟩
theorem rS {l:List UInt8}:fL l=0<->DQ l/\l.length<=2000:=by
 unfold fL DQ
 by_cases h:l.all dgB=true
 ·rw [if_pos h]
  have ha:=YL.1 h
  by_cases h1:l=[]\/(1<l.length/\l.head?=some 48)
  ·rw [if_pos h1]
   refine ⟨fun e=>(by cases e),fun ⟨⟨g1,g2,g3⟩,g4⟩=>?_⟩;rcases h1 with h1 | ⟨h1,h2⟩
   ·exact absurd h1 g1
   ·exact absurd h2 (g3 h1)
  ·rw [if_neg h1]
   have hn:l≠[]:=fun e=>h1 (.inl e);have hz:1<l.length->l.head?≠some 48:=fun g e=>h1 (.inr ⟨g,e⟩)
   by_cases h2:2000<l.length
   ·rw [if_pos h2]
    exact ⟨fun e=>(by cases e),fun ⟨_,g⟩=>by omega⟩
   ·rw [if_neg h2]
    exact ⟨fun _=>⟨⟨hn,ha,hz⟩,by omega⟩,fun _=>rfl⟩
 ·rw [if_neg h]
  exact ⟨fun e=>(by cases e),fun ⟨⟨_,g,_⟩,_⟩=>absurd (YL.2 g) h⟩
theorem vW (s:ByteArray) (w:Wo) (hs:s.size<=maxLen) :
    Calls Tryz.prog 137 #[.string s] w fun e w'=>e=.returned (.int .i64 (fL s.data.toList))/\Below w.heap.size w w':=by
 have U9:=fun w=>run_bytes_of_string (P:=Tryz.prog) w 9 231 5 s Tryz.underlying9 Tryz.underlying231 Tryz.underlying5;unfold maxLen at hs;go_enter Tryz.func137,Tryz.ntmps137
 go_wp2_with fail
 clear U9;generalize grownCap w s.size 0 5=cap;have nX:∀ k (h:k<s.data.size),(w.alloc (.cells (bytesRow s cap) 5 ((bytesRow s cap).size,(bytesRow s cap).size+1))).cell? ⟨w.heap.size,k,none⟩=some (.int .u8 (s.data[k].toNat:Int)):=fun k h=>by
  rw [World.cell?_alloc_mark,bytesRow_at s cap k h]
 have HC:=lH nX;have K0:Below w.heap.size w (w.alloc (.cells (bytesRow s cap) 5 ((bytesRow s cap).size,(bytesRow s cap).size+1))).drew:=aD (bA);have HK:=lH K0;have aIe:w.heap.size<(w.alloc (.cells (bytesRow s cap) 5 ((bytesRow s cap).size,(bytesRow s cap).size+1))).heap.size:=by simp
 clear nX K0;generalize (w.alloc (.cells (bytesRow s cap) 5 ((bytesRow s cap).size,(bytesRow s cap).size+1)))=w1 at *
 go_loop [4,8] (fun _ i=>∃ k:Nat,k<=s.size/\i=.int .i64 k/\s.data.toList.all dgB=(s.data.toList.drop k).all dgB) (fun _ i=>s.size-(intOf i).toNat)
 case atStart=>exact ⟨0,by omega,rfl,rfl⟩
 case round=>
  obtain ⟨k,hk,rfl,nP⟩:=hrel;have HG:=lH nP;clear nP
  by_cases aW:k<s.size
  ·obtain ⟨n,hn,hn2⟩:∃ n:Nat,n<256/\n=(s.data[k]'aW).toNat:=⟨_,UInt8.toNat_lt _,rfl⟩
   have hc:=HC.o k aW;rw [<-hn2] at hc;have hd:s.data.toList.drop k=s.data[k]'aW::s.data.toList.drop (k+1):=by
    rw [List.drop_eq_getElem_cons (by simp;exact aW)];simp
   have HD:Hid ((s.data.toList.drop k).all dgB=(decide (48<=n/\n<=57) && (s.data.toList.drop (k+1)).all dgB)):=lH (by rw [hd,hn2];rfl);have fT:(k:Int)<(s.size:Int):=by omega
   clear hd hn2
   by_cases h48:n<48
   ·have HN:Hid (fL s.data.toList=5):=lH (by unfold fL;rw [HG.o,HD.o,decide_eq_false (by omega),Bool.false_and];rfl)
    go_wp2_with fail
    go_ret;exact ⟨aX HN.o.symm,HK.o⟩
   ·by_cases h57:57<n
    ·have HN:Hid (fL s.data.toList=5):=lH (by unfold fL;rw [HG.o,HD.o,decide_eq_false (by omega),Bool.false_and];rfl)
     go_wp2_with fail
     go_ret;exact ⟨aX HN.o.symm,HK.o⟩
    ·have HN:Hid (s.data.toList.all dgB=(s.data.toList.drop (k+1)).all dgB):=lH (by rw [HG.o,HD.o,decide_eq_true (by omega),Bool.true_and])
     go_wp2_with fail
     go_round
     case rel=>exact ⟨k+1,by omega,by go_num,HN.o⟩
     case measure=>simp [intOf];omega
  ·have hd:s.data.toList.drop k=[]:=by rw [List.drop_eq_nil_iff];simp;exact Nat.le_of_not_lt aW
   have HA:Hid (s.data.toList.all dgB=true):=lH (by rw [HG.o,hd];rfl);have fT:¬(k:Int)<(s.size:Int):=by omega
   have HS:=lH (Lib.size_eq s);clear hd HG
   by_cases h0:s.size=0
   ·have hl:s.data.toList=[]:=List.eq_nil_of_length_eq_zero (by have:=HS.o;omega)
    have HN:Hid (fL s.data.toList=5):=lH (by rw [hl];rfl);have UW:s=⟨#[]⟩:=by apply ByteArray.ext;apply Array.ext';simpa using hl
    subst UW
    go_wp2_with fail
    go_ret;exact ⟨aX HN.o.symm,HK.o⟩
   ·obtain ⟨c,r,hcr⟩:∃ c r,s.data.toList=c::r:=by
     cases hl:s.data.toList with
     | nil=>exact absurd (by have:=HS.o;rw [hl] at this;simpa using this) h0
     | cons c r=>exact ⟨c,r,rfl⟩
    have hem:s.toList.isEmpty=false:=by rw [ByteArray.toList_eq,hcr];rfl
    have cP:s.toList≠[]:=fun e=>by rw [e] at hem;cases hem
    have a1Q:∀ h:0<s.size,(s[0]'h).toNat=c.toNat:=fun h=>by
     have:s.data.toList[0]?=some c:=by rw [hcr];rfl
     have h2:s.data[0]?=some c:=by simpa using this
     obtain ⟨h3,h4⟩:=Array.getElem?_eq_some_iff.1 h2;show (s.data[0]'h3).toNat=_;rw [h4]
    have HCR:=lH hcr;have UZ:0<s.size:=by omega
    have II:Hid (s.size=r.length+1):=lH (by rw [HS.o,hcr];rfl);clear hcr
    by_cases h1:1<s.size
    ·have h1I:(1:Int)<(s.size:Int):=by omega
     by_cases h48:c.toNat=48
     ·have aWd:((c.toNat:Int) == 48)=true:=by rw [h48];rfl
      have HN:Hid (fL s.data.toList=5):=lH (by
       unfold fL;rw [HA.o,if_pos rfl,if_pos (.inr ⟨by rw [<-HS.o];exact h1,by rw [HCR.o];exact congrArg some (UInt8.toNat_inj.1 h48)⟩)])
      go_wp2_with fail
      go_ret;exact ⟨aX HN.o.symm,HK.o⟩
     ·have aWd:((c.toNat:Int) == 48)=false:=by simp;omega
      have hno:¬(s.data.toList=[]\/(1<s.data.toList.length/\s.data.toList.head?=some 48)):=by
       rw [HCR.o];rintro (h | ⟨_,h⟩)
       ·cases h
       ·injection h with h;subst h;exact h48 rfl
      have HNO:=lH hno;clear hno
      by_cases h2:2000<s.size
      ·have h2I:(2000:Int)<(s.size:Int):=by omega
       have HN:Hid (fL s.data.toList=2):=lH (by unfold fL;rw [HA.o,if_pos rfl,if_neg HNO.o,if_pos (by rw [<-HS.o];exact h2)])
       go_wp2_with fail
       go_ret;exact ⟨aX HN.o.symm,HK.o⟩
      ·have h2I:¬(2000:Int)<(s.size:Int):=by omega
       have HN:Hid (fL s.data.toList=0):=lH (by unfold fL;rw [HA.o,if_pos rfl,if_neg HNO.o,if_neg (by rw [<-HS.o];exact h2)])
       go_wp2_with fail
       go_ret;exact ⟨aX HN.o.symm,HK.o⟩
    ·have h1I:¬(1:Int)<(s.size:Int):=by omega
     have h2I:¬(2000:Int)<(s.size:Int):=by omega
     have HN:Hid (fL s.data.toList=0):=lH (by
      unfold fL;have hl:=HS.o;rw [HA.o,if_pos rfl,if_neg (by rw [HCR.o];rintro (h | ⟨h,_⟩);cases h;rw [HCR.o] at hl;omega),if_neg (by omega)])
     go_wp2_with fail
     go_ret;exact ⟨aX HN.o.symm,HK.o⟩
theorem KE (s:ByteArray):rdT false s.data.toList=s:=by
 apply ByteArray.ext;simp [rdT]
def TwP (y z:Int) (w:Wo) (e:Ending) (w':Wo):Prop:=Below w.heap.size w w'/\∃ b A n c b2 B m d,e=.returned (.tuple #[.agg #[.bool b,.slice A n c],.agg #[.bool b2,.slice B m d],.int .i64 0])/\cG w' w'.heap.size y b A n c/\cG w' w'.heap.size z b2 B m d
theorem aK8 (s t:ByteArray) (w:Wo) (h1:fL s.data.toList=0) (h2:fL t.data.toList=0) :
    Calls Tryz.prog 161 #[.string s,.string t] w (TwP (dv s.data.toList) (dv t.data.toList) w):=by
 obtain ⟨⟨_,k1,_⟩,k2⟩:=rS.1 h1;obtain ⟨⟨_,k3,_⟩,k4⟩:=rS.1 h2;have HD1:Hid (jM s.data.toList):=lH k1;have HD2:Hid (jM t.data.toList):=lH k3;have OL:Hid (s.size<=2000):=lH (by rw [Lib.size_eq];exact k2);have NZ:Hid (t.size<=2000):=lH (by rw [Lib.size_eq];exact k4);have eN:=lH h1;have iL:=lH h2;have kC:∀ w,(Instr.index 258 (.agg #[.string s,.string t]) (.int .i64 0)).run Tryz.prog w=.ok (.string s) w:=fun _=>by kernel_rfl
 have JI:∀ w,(Instr.index 258 (.agg #[.string s,.string t]) (.int .i64 1)).run Tryz.prog w=.ok (.string t) w:=fun _=>by kernel_rfl
 have DN:=lH kC;have AR:=lH JI;have dB:Hid (Below w.heap.size w ((w.alloc (.cells #[.bool false,.slice none 0 0] 113)).alloc (.cells #[.bool false,.slice none 0 0] 113))):=lH ((bA).alloc (by simp) _);have cJ:Hid (aG ((w.alloc (.cells #[.bool false,.slice none 0 0] 113)).alloc (.cells #[.bool false,.slice none 0 0] 113)) w.heap.size 113 #[.bool false,.slice none 0 0]):=lH ((aG.new w _ _).alloc _);have dI:Hid (aG ((w.alloc (.cells #[.bool false,.slice none 0 0] 113)).alloc (.cells #[.bool false,.slice none 0 0] 113)) (w.heap.size+1) 113 #[.bool false,.slice none 0 0]):=lH (aG.new_ (by simp));clear h1 h2 k1 k2 k3 k4 kC JI;go_enter Tryz.func161,Tryz.ntmps161
 go_wp2_with fail
 generalize ((w.alloc (.cells #[.bool false,.slice none 0 0] 113)).alloc (.cells #[.bool false,.slice none 0 0] 113))=W at *
 go_loopw [8,9,13] (fun v8 v9 i wr=>∃ k:Nat,k<=2/\i=.int .i64 k/\Below w.heap.size w wr/\aG wr w.heap.size 113 #[.bool false,.slice none 0 0]/\aG wr (w.heap.size+1) 113 #[.bool false,.slice none 0 0]) (fun _ _ i _=>2-(intOf i).toNat)
 case atStart=>exact ⟨0,by omega,rfl,dB.o,cJ.o,dI.o⟩
 case round=>
  clear dB cJ dI;obtain ⟨k,hk,rfl,hb,yA,xJ⟩:=hrel;have HB:=lH hb;have cJ:=lH yA;have dI:=lH xJ;clear hb yA xJ;have hc:k=0\/k=1\/k=2:=by omega
  rcases hc with rfl | rfl | rfl
  ·have e:(((0:Nat):Int))=0:=rfl
   rw [e];clear e;have kC:=DN.o
   go_wp2_with fail
   refine (vW s wr (by have:=OL.o;unfold maxLen;omega)).mono ?_;rw [eN.o];rintro e w1 ⟨rfl,bH⟩;have bS:=lH (HB.o.tm bH);have u3:=lH (cJ.o.bl bH);have aBc:=lH (dI.o.bl bH);clear bH HB cJ dI kC
   go_wp2_with fail
   go_roundw
   case rel=>exact ⟨1,by omega,rfl,bS.o,u3.o,aBc.o⟩
   case measure=>simp [intOf]
  ·have e:(((1:Nat):Int))=1:=rfl
   rw [e];clear e;have JI:=AR.o
   go_wp2_with fail
   refine (vW t wr (by have:=NZ.o;unfold maxLen;omega)).mono ?_;rw [iL.o];rintro e w1 ⟨rfl,bH⟩;have bS:=lH (HB.o.tm bH);have u3:=lH (cJ.o.bl bH);have aBc:=lH (dI.o.bl bH);clear bH HB cJ dI JI
   go_wp2_with fail
   go_roundw
   case rel=>exact ⟨2,by omega,rfl,bS.o,u3.o,aBc.o⟩
   case measure=>simp [intOf]
  ·have e:(((2:Nat):Int))=2:=rfl
   rw [e];clear e
   go_wp2_with fail
   have c1:=zJ false s.data.toList HD1.o (by have:=OL.o;rw [Lib.size_eq] at this;omega) wr;rw [KE] at c1;refine c1.mono ?_;clear c1;rintro e w1 ⟨bH,f1,C1,i1,j1,rfl,h1⟩;have bS:=lH (HB.o.tm bH);have u3:=lH (cJ.o.bl bH);have aBc:=lH (dI.o.bl bH);have H1:=lH h1;clear bH HB cJ dI h1
   go_wp2_with fail
   have c2:=zJ false t.data.toList HD2.o (by have:=NZ.o;rw [Lib.size_eq] at this;omega) w1;rw [KE] at c2;refine c2.mono ?_;clear c2;rintro e w2 ⟨bL,f2,C2,i2,j2,rfl,h2⟩;have bW:=lH (bS.o.tm bL);have JP:=lH (u3.o.bl bL);have aBb:=lH (aBc.o.bl bL);have H12:=lH (H1.o.up bL);have H22:=lH h2;have e10:w.heap.size+1≠w.heap.size:=by omega
   have e01:w.heap.size≠w.heap.size+1:=by omega
   clear bL bS u3 aBc h2 H1;have y0:=JP.o.cell 0;have y1:=JP.o.cell 1;have yf:=JP.o.frozen;have yl:=JP.o.lt;have z0:=aBb.o.cell 0;have z1:=aBb.o.cell 1;have zf:=aBb.o.frozen;have zl:=aBb.o.lt
   go_wp2_with fail
   clear y0 y1 yf yl z0 z1 zf zl;generalize hw3:(w2.setCell ⟨w.heap.size,0,none⟩ (.bool f1)).setCell ⟨w.heap.size,1,none⟩ (.slice C1 i1 j1)=w3;have aMP:Hid (aG w3 w.heap.size 113 #[.bool f1,.slice C1 i1 j1]):=lH (by rw [<-hw3];exact cD JP.o);have aFF:Hid (aG w3 (w.heap.size+1) 113 #[.bool false,.slice none 0 0]):=lH (by rw [<-hw3];exact (aBb.o.far e10 _).far e10 _);have dR:Hid (Below w.heap.size w w3):=lH (by rw [<-hw3];exact cW bW.o lR);have H13:Hid (cG w3 w3.heap.size (JC false s.data.toList) f1 C1 i1 j1):=lH (by rw [<-hw3];exact (H12.o.keep (JP.o.cell 0) (by simp) _).keep ((JP.o.set_ 0 (.bool f1)).cell 1) (by simp) _);have H23:Hid (cG w3 w3.heap.size (JC false t.data.toList) f2 C2 i2 j2):=lH (by rw [<-hw3];exact (H22.o.keep (JP.o.cell 0) (by simp) _).keep ((JP.o.set_ 0 (.bool f1)).cell 1) (by simp) _);clear hw3 JP aBb bW H12 H22
   generalize DY:(w3.setCell ⟨w.heap.size+1,0,none⟩ (.bool f2)).setCell ⟨w.heap.size+1,1,none⟩ (.slice C2 i2 j2)=w4;have aRa:Hid (aG w4 w.heap.size 113 #[.bool f1,.slice C1 i1 j1]):=lH (by rw [<-DY];exact (aMP.o.far e01 _).far e01 _);have aQ9:Hid (aG w4 (w.heap.size+1) 113 #[.bool f2,.slice C2 i2 j2]):=lH (by rw [<-DY];exact cD aFF.o);have bK:Hid (Below w.heap.size w w4):=lH (by rw [<-DY];exact cW dR.o (Nat.le_succ _));have H14:Hid (cG w4 w4.heap.size (JC false s.data.toList) f1 C1 i1 j1):=lH (by rw [<-DY];exact (H13.o.keep (aFF.o.cell 0) (by simp) _).keep ((aFF.o.set_ 0 (.bool f2)).cell 1) (by simp) _);have H24:Hid (cG w4 w4.heap.size (JC false t.data.toList) f2 C2 i2 j2):=lH (by rw [<-DY];exact (H23.o.keep (aFF.o.cell 0) (by simp) _).keep ((aFF.o.set_ 0 (.bool f2)).cell 1) (by simp) _);clear DY;have q0:=aRa.o.cell 0;have q1:=aRa.o.cell 1
   have q2:=aQ9.o.cell 0;have q3:=aQ9.o.cell 1;exact bodyPost_ret (v:=.tuple #[.agg #[.bool f1,.slice C1 i1 j1],.agg #[.bool f2,.slice C2 i2 j2],.int .i64 0]) (by simp [results,Tryz.results161,go_sem,q0,q1,q2,q3]) rfl ⟨bK.o,f1,C1,i1,j1,f2,C2,i2,j2,rfl,H14.o,H24.o⟩
theorem aDp (v:Nat) (b:Bool) (A:OA) (n c:Nat) (w:Wo) (h:cG w w.heap.size (v:Int) b A n c) (ht:dA w) (hv:xI v<=2000) :
    Calls Tryz.prog 162 #[.agg #[.bool b,.slice A n c]] w fun e w'=>e=.returned (.tuple #[.string ⟨(Lib.decDigits v).toArray⟩,.int .i64 0])/\Below w.heap.size w w':=by
 have dB:Hid (Below w.heap.size w (w.alloc (.cells #[.bool b,.slice A n c] 113))):=lH (bA);have cJ:=lH (aG.new w 113 #[.bool b,.slice A n c]);have H1:=lH (h.up dB.o);have HT:=lH (ht.up dB.o);have hf:xI (v:Int).natAbs<=2000:=by rw [Int.natAbs_natCast];exact hv
 have HF:=lH hf;have RY:Hid (jD (v:Int)=Lib.decDigits v):=lH (by unfold jD;rw [if_neg (Int.not_lt.2 (Int.natCast_nonneg v)),Int.natAbs_natCast,List.nil_append]);clear h ht hf;go_enter Tryz.func162,Tryz.ntmps162
 go_upto_region 1 with fail
 generalize w.alloc (.cells #[.bool b,.slice A n c] 113)=W at *;have p0:=cJ.o.cell 0;have p1:=cJ.o.cell 1;have pl:=cJ.o.lt
 go_wp2_with fail
 refine (B_ (v:Int) b A n c W H1.o HT.o).mono ?_;rintro e w1 ⟨bH,s,he,hs,-⟩;rw [decide_eq_true HF.o] at he;have yB:=hs HF.o;rw [RY.o] at yB;subst yB;subst he;have bS:=lH (dB.o.tm bH);clear bH hs p0 p1 pl
 go_wp2_with fail
 go_ret2;exact ⟨rfl,bS.o⟩
theorem aEO {a b:Nat} (ha:a<10^2000) (hb:b<10^2000):xI (a.gcd b)<=2000:=by
 refine T_ (by decide) ?_;rcases Nat.eq_zero_or_pos a with h | h
 ·subst h;rw [Nat.gcd_zero_left];exact hb
 ·exact WT (Nat.gcd_le_left _ h) ha
theorem aHM (s t:ByteArray) (w:Wo) (h1:fL s.data.toList=0) (h2:fL t.data.toList=0) (ht:dA w) :
    Calls Tryz.prog 138 #[.string s,.string t] w fun e w'=>e=.returned (.tuple #[.string ⟨(Lib.decDigits ((dv s.data.toList).gcd (dv t.data.toList))).toArray⟩,.int .i64 0])/\Below w.heap.size w w':=by
 have HT:=lH ht;have eN:=lH h1;have iL:=lH h2;have aW:∀ l:List UInt8,fL l=0->dv l<10^2000/\dK (dv l)<=2000:=fun l h=>by
  obtain ⟨⟨_,k1,_⟩,k2⟩:=rS.1 h;have h3:=xT k2;have h4:=jO (G3 k1) h3;exact ⟨h4,cV (NB k1) k2⟩
 have HA:=lH (aW _ h1);have HC:=lH (aW _ h2);clear ht h1 h2 aW;go_enter Tryz.func138,Tryz.ntmps138
 go_wp2_with fail
 refine (aK8 s t w eN.o iL.o).mono ?_;rintro e w1 ⟨bH,f1,C1,i1,j1,f2,C2,i2,j2,rfl,g1,g2⟩;have HK:Hid (Below w1.heap.size w1 ((w1.alloc (.cells #[.bool f1,.slice C1 i1 j1] 113)).alloc (.cells #[.bool f2,.slice C2 i2 j2] 113))):=lH ((bA).alloc (by simp) _);have bS:=lH (bH.tm HK.o);have cJ:Hid (aG ((w1.alloc (.cells #[.bool f1,.slice C1 i1 j1] 113)).alloc (.cells #[.bool f2,.slice C2 i2 j2] 113)) w1.heap.size 113 #[.bool f1,.slice C1 i1 j1]):=lH ((aG.new w1 _ _).alloc _);have dI:Hid (aG ((w1.alloc (.cells #[.bool f1,.slice C1 i1 j1] 113)).alloc (.cells #[.bool f2,.slice C2 i2 j2] 113)) (w1.heap.size+1) 113 #[.bool f2,.slice C2 i2 j2]):=lH (aG.new_ (by simp));have H1:=lH (g1.up HK.o);have H2:=lH (g2.up HK.o);have hn1:i1<=2000:=by rw [g1.en,Int.natAbs_natCast];exact HA.o.2
 have hn2:i2<=2000:=by rw [g2.en,Int.natAbs_natCast];exact HC.o.2
 clear bH HK g1 g2
 go_upto_region 2 with fail
 generalize ((w1.alloc (.cells #[.bool f1,.slice C1 i1 j1] 113)).alloc (.cells #[.bool f2,.slice C2 i2 j2] 113))=W at *;have p0:=cJ.o.cell 0;have p1:=cJ.o.cell 1;have pl:=cJ.o.lt;have q0:=dI.o.cell 0;have q1:=dI.o.cell 1;have ql:=dI.o.lt
 go_wp2_with fail
 refine (YB (dv s.data.toList:Int) (dv t.data.toList:Int) f1 C1 i1 j1 f2 C2 i2 j2 W H1.o H2.o (cV hn1 (by decide)) (cV hn2 (by decide))).mono ?_;rw [Int.natAbs_natCast,Int.natAbs_natCast];rintro e w3 ⟨cR,f3,C3,i3,j3,rfl,g3⟩;have dR:=lH (bS.o.tm cR);have H3:=lH g3;clear cR g3 p0 p1 pl q0 q1 ql
 go_wp2_with fail
 refine (aDp _ f3 C3 i3 j3 w3 H3.o (HT.o.up dR.o) (aEO HA.o.1 HC.o.1)).mono ?_;rintro e w4 ⟨rfl,dU⟩;have bK:=lH (dR.o.tm dU);clear dU
 go_wp2_with fail
 go_ret2;exact ⟨rfl,bK.o⟩
def h_ (c:UInt8):List UInt8->List UInt8×List UInt8×Bool
 | []=>([],[],false)
 | x::r=>if x=c then ([],r,true) else (x::(h_ c r).1,(h_ c r).2.1,(h_ c r).2.2)
theorem NH {c:UInt8}:∀ {l:List UInt8},c∉l->h_ c l=(l,[],false)
 | [],_=>rfl
 | x::r,h=>by
  have h1:x≠c:=fun e=>h (by rw [e];exact List.mem_cons_self ..);unfold h_;rw [if_neg h1,NH fun hm=>h (List.mem_cons_of_mem _ hm)]
theorem RB {c:UInt8}:∀ {a b:List UInt8},c∉a->h_ c (a++c::b)=(a,b,true)
 | [],b,_=>by simp [h_]
 | x::r,b,h=>by
  have h1:x≠c:=fun e=>h (by rw [e];exact List.mem_cons_self ..);rw [List.cons_append,h_,if_neg h1,RB fun hm=>h (List.mem_cons_of_mem _ hm)]
theorem VN (c:UInt8):∀ l:List UInt8,(Lib.indexByte l c=-1/\h_ c l=(l,[],false))\/(∃ i:Nat,Lib.indexByte l c=(i:Int)/\i+1<=l.length/\h_ c l=(l.take i,l.drop (i+1),true))
 | []=>.inl ⟨rfl,rfl⟩
 | x::r=>by
  unfold Lib.indexByte h_
  by_cases h:x=c
  ·right
   exact ⟨0,by simp [h],by simp,by simp [h]⟩
  ·have hb:(x == c)=false:=by simpa using h
   rw [hb,if_neg h];rcases VN c r with ⟨h1,h2⟩ | ⟨i,h1,h2,h3⟩
   ·left
    rw [h1,h2];simp
   ·right
    refine ⟨i+1,?_,by simp;omega,by rw [h3];simp⟩;rw [h1];have:((i:Int) == -1)=false:=by simp
    simp [this]
theorem YO {c:UInt8}:∀ {l:List UInt8},(h_ c l).2.2=true->l=(h_ c l).1++c::(h_ c l).2.1/\c∉(h_ c l).1
 | [],h=>by cases h
 | x::r,h=>by
  unfold h_ at h ⊢
  by_cases hx:x=c
  ·subst hx;simp
  ·rw [if_neg hx] at h ⊢
   obtain ⟨h1,h2⟩:=YO (l:=r) h;refine ⟨by simp only [List.cons_append];rw [<-h1],fun hm=>?_⟩;rcases List.mem_cons.1 hm with e | hm
   ·exact hx e.symm
   ·exact h2 hm
theorem CN {c:UInt8}:∀ {l:List UInt8},(h_ c l).2.2=false->c∉l/\h_ c l=(l,[],false)
 | [],_=>⟨by simp,rfl⟩
 | x::r,h=>by
  by_cases hx:x=c
  ·unfold h_ at h;rw [if_pos hx] at h;cases h
  ·have h':(h_ c r).2.2=false:=by unfold h_ at h;rw [if_neg hx] at h;exact h
   obtain ⟨h1,h2⟩:=CN h';have h3:c∉x::r:=fun hm=>(List.mem_cons.1 hm).elim (fun e=>hx e.symm) h1;exact ⟨h3,NH h3⟩
def aSX (c:UInt8) (l:List UInt8) (w:Wo) (e:Ending) (w':Wo):Prop:=e=.returned (.tuple #[.string ⟨(h_ c l).1.toArray⟩,.string ⟨(h_ c l).2.1.toArray⟩,.bool (h_ c l).2.2])/\Below w.heap.size w w'
theorem aDU (c:UInt8) (l:List UInt8) (hl:l.length<=9223372036854775807) (w:Wo) :
    Calls Tryz.prog 142 #[.string ⟨l.toArray⟩,.string ⟨#[c]⟩] w (aSX c l w):=by
 have hix:=VN c l;have HIX:=lH hix;clear hix;go_enter Tryz.func142,Tryz.ntmps142
 go_wp2_with fail
 refine (Tryz.stringslite_Index_one ⟨l.toArray⟩ c w).mono ?_;rintro e w1 ⟨he,hw⟩;subst hw;rw [show (⟨l.toArray⟩:ByteArray).data.toList=l from by simp] at he;rcases HIX.o with ⟨h1,h2⟩ | ⟨i,h1,h2,h3⟩
 ·rw [h1] at he
  subst he;have HQ:=lH h2;clear h1 h2
  go_wp2_with fail
  go_ret3
  exact ⟨by rw [HQ.o];rfl,bR⟩
 ·rw [h1] at he
  subst he;have HQ:=lH h3;have aH7:∀ W,(Instr.sliceAt 9 (.string ⟨l.toArray⟩) none (some (.int .i64 (i:Int))) none).run Tryz.prog W=.ok (.string ⟨(l.take i).toArray⟩) W:=fun W=>aCD l i (by omega) W;have aD3:∀ W,(Instr.sliceAt 9 (.string ⟨l.toArray⟩) (some (.int .i64 ((i:Int)+1))) none none).run Tryz.prog W=.ok (.string ⟨(l.drop (i+1)).toArray⟩) W:=fun W=>O1 l (i+1) h2 W;have hwr:IntKind.i64.wrap ((i:Int)+1)=(i:Int)+1:=Go.IntWalk.i64_in _ (by omega);obtain ⟨A,hA⟩:∃ A,l.take i=A:=⟨_,rfl⟩;obtain ⟨B,hB⟩:∃ B,l.drop (i+1)=B:=⟨_,rfl⟩;rw [hA] at aH7;rw [hB] at aD3;rw [hA,hB] at HQ;clear h1 h3 hA hB
  go_wp2_with fail
  go_quiet (fail)
  go_wp2_with fail
  go_ret3
  exact ⟨by rw [HQ.o];rfl,bC bR _⟩
theorem YN (c:UInt8) (l:List UInt8) (hl:l.length<=9223372036854775807) (w:Wo) :
    Calls Tryz.prog 112 #[.string ⟨l.toArray⟩,.string ⟨#[c]⟩] w (aSX c l w):=by
 go_enter Tryz.func112,Tryz.ntmps112
 go_wp2_with fail
 refine (aDU c l hl w).mono ?_;rintro e w1 ⟨rfl,hb⟩;have HB:=lH hb;clear hb
 go_wp2_with fail
 go_ret3
 exact ⟨rfl,HB.o⟩
end
section
open Go.ChangeShapes Go.WideShapes Go.ChangeAt Go.RowKit
attribute [local go_sem ↓] aE
attribute [local go_sem] aK aH aM aY
def zA (l:List UInt8):List UInt8:=Lib.trimPrefix l [45]
def tP (l:List UInt8):List UInt8:=(h_ 47 (zA l)).1
def sE (l:List UInt8):List UInt8:=(h_ 47 (zA l)).2.1
def JB (l:List UInt8):Bool:=(h_ 47 (zA l)).2.2
def rtB (l:List UInt8):Int:=if JB l then fL (sE l) else 0
def wQ (l:List UInt8):Prop:=fL (tP l)=5\/rtB l=5\/(tP l=[48]/\(zA l).length<l.length)
def zC (l:List UInt8):Prop:=fL (tP l)≠0\/rtB l≠0
def zB (l:List UInt8):Prop:=sE l=[48]\/sE l=[49]\/(dv (tP l)).gcd (dv (sE l))≠1
instance (l:List UInt8):Decidable (wQ l):=by unfold wQ;infer_instance
instance (l:List UInt8):Decidable (zC l):=by unfold zC;infer_instance
instance (l:List UInt8):Decidable (zB l):=by unfold zB;infer_instance
def cX (l:List UInt8):Int:=if wQ l then 5 else if zC l then 2 else if JB l=true/\zB l then 3 else 0
theorem MF (l:List UInt8) (c:UInt8):pR ⟨l.toArray⟩ ⟨#[c]⟩=decide (l=[c]):=by
 unfold pR;refine decide_eq_decide.2 ⟨fun h=>?_,fun h=>by rw [h]⟩;have:=congrArg (fun (x:ByteArray)=>x.data.toList) h;simpa using this
theorem NE {n:Nat}:Lib.decDigits n=[49]<->n=1:=
 ⟨fun h=>NF (h.trans (show [49]=Lib.decDigits 1 by rw [eU (by decide)];rfl)),fun h=>by rw [h,eU (by decide)];rfl⟩
theorem vQ (l:List UInt8) (hl:l.length<=maxLen) (w:Wo) (ht:dA w) :
    Calls Tryz.prog 104 #[.string ⟨l.toArray⟩] w fun e w'=>e=.returned (.int .i64 (cX l))/\Below w.heap.size w w':=by
 have HT:=lH ht;have CA:(zA l).length<=l.length:=by unfold zA Lib.trimPrefix;split<;>simp
 have HS:Hid (Lib.trimPrefix l [45]=zA l):=lH rfl;have wV:(tP l).length<=(zA l).length/\(sE l).length<=(zA l).length:=by
  unfold tP sE;rcases VN 47 (zA l) with ⟨_,h⟩ | ⟨i,_,_,h⟩<;>rw [h]<;>simp<;>omega
 have WL:=lH wV;have hm:(zA l).length<=9223372036854775807:=cV CA (by unfold maxLen at hl;omega);have Y7:=lH hl;have dW:Hid ((⟨(zA l).toArray⟩:ByteArray).size=(zA l).length):=lH (jE _);have aWP:Hid ((⟨l.toArray⟩:ByteArray).size=l.length):=lH (jE _);have II:=lH CA;clear ht wV hl CA;go_enter Tryz.func104,Tryz.ntmps104
 go_wp2_with fail
 refine (Tryz.strings_TrimPrefix ⟨l.toArray⟩ ⟨#[45]⟩ w).mono ?_;rintro e w1 ⟨he,hw⟩;subst hw;rw [show (⟨l.toArray⟩:ByteArray).data.toList=l from by simp,show (⟨#[45]⟩:ByteArray).data.toList=[45] from rfl,HS.o] at he;subst he
 go_wp2_with fail
 refine (YN 47 (zA l) hm w1).mono ?_;rintro e w2 ⟨he,bL⟩;rw [show (h_ 47 (zA l)).1=tP l from rfl,show (h_ 47 (zA l)).2.1=sE l from rfl,show (h_ 47 (zA l)).2.2=JB l from rfl] at he;subst he;have bW:=lH bL;clear bL hm;have hq0:=MF (tP l) 48;have hd0:=MF (sE l) 48;have X8:=MF (sE l) 49;obtain ⟨tn,htn⟩:∃ t:ByteArray,⟨(tP l).toArray⟩=t:=⟨_,rfl⟩;obtain ⟨td,htd⟩:∃ t:ByteArray,⟨(sE l).toArray⟩=t:=⟨_,rfl⟩;have HTN:Hid (tn.data.toList=tP l):=lH (by rw [<-htn]);have HTD:Hid (td.data.toList=sE l):=lH (by rw [<-htd]);have aWK:Hid (tn.size=(tP l).length):=lH (by rw [<-htn];exact jE _);have aWL:Hid (td.size=(sE l).length):=lH (by rw [<-htd];exact jE _);rw [htn] at hq0 ⊢;rw [htd] at hd0 X8 ⊢;have HQ0:=lH hq0;have yK:=lH hd0;have rG:=lH X8;clear htn htd hq0 hd0 X8
 go_wp2_with fail
 refine (vW tn w2 (by rw [aWK.o];exact cV WL.o.1 (cV II.o Y7.o))).mono ?_;rw [HTN.o];rintro e w3 ⟨rfl,cR⟩;have dR:=lH (bW.o.tm cR);clear cR bW;obtain ⟨a,ha⟩:∃ a,fL (tP l)=a:=⟨_,rfl⟩;obtain ⟨b,hb⟩:∃ b,rtB l=b:=⟨_,rfl⟩;obtain ⟨is,his⟩:∃ i,JB l=i:=⟨_,rfl⟩;have HA:=lH ha;have N7:=lH hb;have HI:=lH his;rw [ha,his];clear ha hb his
 go_upto_if 21 with fail
 go_cut [8] (fun v wc=>v=.int .i64 b/\Below w1.heap.size w1 wc)
 case first=>
  cases is with
  | true=>
   go_wp2_with fail
   refine (vW td w3 (by rw [aWL.o];exact cV WL.o.2 (cV II.o Y7.o))).mono ?_;rw [HTD.o];rintro e w4 ⟨he,dU⟩;have hbe:fL (sE l)=b:=by rw [<-N7.o];unfold rtB;rw [HI.o];rfl
   rw [hbe] at he;subst he;have bK:=lH (dR.o.tm dU);clear dU hbe
   go_wp2_with fail
   go_meet
   case rel=>exact ⟨rfl,bK.o⟩
  | false=>
   have AD:b=0:=by rw [<-N7.o];unfold rtB;rw [HI.o];rfl
   subst AD
   go_wp2_with fail
   go_meet
   case rel=>exact ⟨rfl,dR.o⟩
 obtain ⟨hv,dU⟩:=hcut;subst hv;have bK:=lH dU;clear dU dR;generalize wc=V at *
 go_upto_region 6 with fail
 go_cut [24] (fun v wd=>wd=V/\v=.bool (decide (wQ l)))
 case first=>
  have SW:Hid (wQ l<->(a=5\/b=5\/(tP l=[48]/\(zA l).length<l.length))):=lH (by unfold wQ;rw [HA.o,N7.o])
  by_cases ha:a=5
  ·have hd:decide (wQ l)=true:=decide_eq_true (SW.o.2 (.inl ha))
   have oS:(a == 5)=true:=by simp [ha]
   clear ha
   go_wp2_with fail
   go_meet
   case rel=>exact ⟨rfl,by rw [hd]⟩
  ·have oS:(a == 5)=false:=by simp [ha]
   by_cases hb:b=5
   ·have hd:decide (wQ l)=true:=decide_eq_true (SW.o.2 (.inr (.inl hb)))
    have pK:(b == 5)=true:=by simp [hb]
    clear ha hb
    go_wp2_with fail
    go_meet
    case rel=>exact ⟨rfl,by rw [hd]⟩
   ·have pK:(b == 5)=false:=by simp [hb]
    have wS:=dW.o;have yB:=aWP.o
    by_cases hn:tP l=[48]
    ·have hx:tn.toList=[48]:=by rw [ByteArray.toList_eq,HTN.o];exact hn
     by_cases aW:(zA l).length<l.length
     ·have hd:decide (wQ l)=true:=decide_eq_true (SW.o.2 (.inr (.inr ⟨hn,aW⟩)))
      have hlI:((zA l).length:Int)<(l.length:Int):=by omega
      clear ha hb hn aW
      go_wp2_with fail
      go_meet
      case rel=>exact ⟨rfl,by rw [hd]⟩
     ·have hd:decide (wQ l)=false:=decide_eq_false fun h=>(SW.o.1 h).elim ha fun h=>h.elim hb fun h=>aW h.2
      have hlI:¬((zA l).length:Int)<(l.length:Int):=by omega
      clear ha hb hn aW
      go_wp2_with fail
      go_meet
      case rel=>exact ⟨rfl,by rw [hd]⟩
    ·have hx:¬tn.toList=[48]:=by rw [ByteArray.toList_eq,HTN.o];exact hn
     have hd:decide (wQ l)=false:=decide_eq_false fun h=>(SW.o.1 h).elim ha fun h=>h.elim hb fun h=>hn h.1;clear ha hb hn
     go_wp2_with fail
     go_meet
     case rel=>exact ⟨rfl,by rw [hd]⟩
 obtain ⟨KY,rfl⟩:=hcut;subst KY;generalize wc=V at *
 by_cases hP5:wQ l
 ·have hR:Hid (cX l=5):=lH (by unfold cX;rw [if_pos hP5])
  rw [decide_eq_true hP5];clear hP5
  go_wp2_with fail
  go_ret;exact ⟨aX hR.out.symm,bK.o⟩
 ·have SW:=lH hP5
  rw [decide_eq_false hP5];clear hP5
  go_upto_region 8 with fail
  go_cut [42] (fun v wd=>wd=V/\v=.bool (decide (zC l)))
  case first=>
   have tO:Hid (zC l<->(a≠0\/b≠0)):=lH (by unfold zC;rw [HA.o,N7.o])
   by_cases ha:a=0
   ·subst ha
    by_cases hb:b=0
    ·subst hb
     have hd:decide (zC l)=false:=decide_eq_false fun h=>(tO.o.1 h).elim (fun e=>e rfl) fun e=>e rfl
     go_wp2_with fail
     go_meet
     case rel=>exact ⟨rfl,by rw [hd]⟩
    ·have hd:decide (zC l)=true:=decide_eq_true (tO.o.2 (.inr hb))
     have pK:(b != 0)=true:=by simp [hb]
     clear hb
     go_wp2_with fail
     go_meet
     case rel=>exact ⟨rfl,by rw [hd]⟩
   ·have hd:decide (zC l)=true:=decide_eq_true (tO.o.2 (.inl ha))
    have oS:(a != 0)=true:=by simp [ha]
    clear ha
    go_wp2_with fail
    go_meet
    case rel=>exact ⟨rfl,by rw [hd]⟩
  obtain ⟨KY,rfl⟩:=hcut;subst KY;generalize wc=V at *
  by_cases hP2:zC l
  ·have hR:Hid (cX l=2):=lH (by unfold cX;rw [if_neg SW.o,if_pos hP2])
   rw [decide_eq_true hP2];clear hP2
   go_wp2_with fail
   go_ret;exact ⟨aX hR.out.symm,bK.o⟩
  ·have tO:=lH hP2
   rw [decide_eq_false hP2];clear hP2;cases is with
   | false=>
    have hR:Hid (cX l=0):=lH (by unfold cX;rw [if_neg SW.o,if_neg tO.o,if_neg (by rw [HI.o];simp)])
    go_wp2_with fail
    go_ret;exact ⟨aX hR.out.symm,bK.o⟩
   | true=>
    have nO:fL tn.data.toList=0:=by rw [HTN.o];exact Classical.byContradiction fun h=>tO.o (.inl h)
    have hd0:fL td.data.toList=0:=by
     rw [HTD.o];refine Classical.byContradiction fun h=>tO.o (.inr ?_);unfold rtB;rw [HI.o];exact h
    go_wp2_with fail
    refine (aHM tn td V nO hd0 (HT.o.up bK.o)).mono ?_;rw [HTN.o,HTD.o];rintro e w6 ⟨rfl,fQ⟩;have fV:=lH (bK.o.tm fQ);clear fQ nO hd0;obtain ⟨tg,htg⟩:∃ t:ByteArray,⟨(Lib.decDigits ((dv (tP l)).gcd (dv (sE l)))).toArray⟩=t:=⟨_,rfl⟩;have HTG:Hid (tg.toList=[49]<->(dv (tP l)).gcd (dv (sE l))=1):=lH (by
     rw [ByteArray.toList_eq,<-htg];exact NE)
    have RY:Hid (td.toList=sE l):=lH (by rw [ByteArray.toList_eq];exact HTD.o);rw [htg];clear htg
    go_upto_region 12 with fail
    go_cut [65] (fun v wd=>wd=w6/\v=.bool (decide (zB l)))
    case first=>
     by_cases h0:td.toList=[48]
     ·have hd:decide (zB l)=true:=decide_eq_true (.inl (by rw [<-RY.o];exact h0))
      go_wp2_with fail
      go_meet
      case rel=>exact ⟨rfl,by rw [hd]⟩
     ·by_cases h1:td.toList=[49]
      ·have hd:decide (zB l)=true:=decide_eq_true (.inr (.inl (by rw [<-RY.o];exact h1)))
       go_wp2_with fail
       go_meet
       case rel=>exact ⟨rfl,by rw [hd]⟩
      ·by_cases h2:tg.toList=[49]
       ·have hd:decide (zB l)=false:=decide_eq_false fun h=>h.elim (fun h=>h0 (RY.o.trans h)) fun h=>h.elim (fun h=>h1 (RY.o.trans h)) fun h=>h (HTG.o.1 h2)
        go_wp2_with fail
        go_meet
        case rel=>exact ⟨rfl,by rw [hd];simp [h0,h1,h2]⟩
       ·have hd:decide (zB l)=true:=decide_eq_true (.inr (.inr fun h=>h2 (HTG.o.2 h)))
        go_wp2_with fail
        go_meet
        case rel=>exact ⟨rfl,by rw [hd];simp [h0,h1,h2]⟩
    obtain ⟨KY,rfl⟩:=hcut;subst KY
    by_cases hP3:zB l
    ·have hR:Hid (cX l=3):=lH (by unfold cX;rw [if_neg SW.o,if_neg tO.o,if_pos ⟨HI.o,hP3⟩])
     rw [decide_eq_true hP3];clear hP3
     go_wp2_with fail
     go_ret;exact ⟨aX hR.out.symm,fV.o⟩
    ·have hR:Hid (cX l=0):=lH (by unfold cX;rw [if_neg SW.o,if_neg tO.o,if_neg (fun h=>hP3 h.2)])
     rw [decide_eq_false hP3];clear hP3
     go_wp2_with fail
     go_ret;exact ⟨aX hR.out.symm,fV.o⟩
end
