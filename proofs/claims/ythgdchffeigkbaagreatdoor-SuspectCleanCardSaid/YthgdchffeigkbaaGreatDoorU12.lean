import Derived.Test.YthgdchffeigkbaaGreatDoorU08
import Derived.Test.YthgdchffeigkbaaGreatDoorU09
import Derived.Deep.LoopGhost
set_option linter.unusedVariables false
set_option linter.unusedSimpArgs false
namespace Go.Proofs.YthgdchffeigkbaaGreatDoor
set_option maxHeartbeats 8000000
set_option maxRecDepth 100000
section
open Go.ChangeShapes Go.WideShapes Go.ChangeAt Go.RowKit
attribute [local go_sem ↓] execOp_call_val
attribute [local go_sem] callVal_func setCell_drewN alloc_drewN
theorem ownL_up {w w':World} {base e size n:Nat} {v:Value} {xs:List Value} (h:w.ownsRow base e size v n xs) (hb:Below w.heap.size w w'):w'.ownsRow base e size v n xs:=by
 refine ⟨h.1,?_⟩;rcases h.2 with h1 | ⟨g,cap,cur,h1,h2,h3,h4⟩
 ·exact .inl h1
 ·refine .inr ⟨g,cap,cur,h1,h2,?_,h4⟩
  have hg:g<w.heap.size:=by
   rcases Nat.lt_or_ge g w.heap.size with hlt | hge
   ·exact hlt
   ·rw [Array.getElem?_eq_none hge] at h3;cases h3
  exact (hb.block g hg).trans h3
theorem rdW_grown {w w':World} {B n g o:Nat} {l:List Nat} {row:Option Nat} {ob:Obj} (h:RdW w B (some ⟨g,o,none⟩) n l) (hB:B≤w.heap.size) (hg:(w.alloc ob).grownBy w' row) (hne:some g≠row):RdW w' w'.heap.size (some ⟨g,o,none⟩) n l:=
 ⟨h.1,fun hn=>by
  obtain ⟨b,off,e,hlt,hc⟩:=h.2 hn;injection e with e;injection e with e1 e2;subst e1;subst e2;have hs:=hg.size;simp at hs;exact ⟨g,o,rfl,by omega,fun j u hu=>hg.cell (Lib.cell?_alloc_some _ (hc j u hu)) hne⟩⟩
theorem zeros_at:∀ L:Nat,1≤L→L≤9→∀ W,(Instr.sliceAt 9 (.string ⟨#[48,48,48,48,48,48,48,48,48]⟩) (some (.int .i64 (L:Int))) none none).run Tryz.prog W=.ok (.string ⟨(List.replicate (9-L) 48).toArray⟩) W:=by
 intro L h1 h9 W;rw [run_sliceAt_string W 9 _ _ _ _ Tryz.underlying9,run_slice_string_l W 9 _ Tryz.underlying9 .i64 (L:Int) (by omega) (by show _≤(9:Int);omega)];have:L=1∨L=2∨L=3∨L=4∨L=5∨L=6∨L=7∨L=8∨L=9:=by omega
 rcases this with rfl | rfl | rfl | rfl | rfl | rfl | rfl | rfl | rfl<;>rfl
theorem bld_up {T e:TypeId} {B b:Nat} {bs:List Value} {w w':World} (h:Lib.IsBuilder T e B b bs w) (hb:Below w.heap.size w w'):Lib.IsBuilder T e B b bs w':=by
 have key:∀ p,Lib.BuilderAt T e B b p bs w→Lib.BuilderAt T e B b p bs w':=fun p h=>by
  have hlt:=h.lt;obtain ⟨h1,v,h2,h3,h4⟩:=h;exact ⟨h1,v,(hb.block b hlt).trans h2,ownL_up h3 hb,h4⟩
 exact h.elim (fun h=>.inl (key _ h)) fun h=>.inr (key _ h)
theorem sz_arr (l:List UInt8):(⟨l.toArray⟩:ByteArray).size=l.length:=by simp [ByteArray.size]
def ItP (z:Int) (w:World) (e:Ending) (w':World):Prop:=Below w.heap.size w w'∧∃ s,e=.returned (.tuple #[.string s,.bool (decide (ndg z.natAbs≤2000))])∧(ndg z.natAbs≤2000→s=⟨(textL z).toArray⟩)∧s.size≤3000
def TxI (T:TypeId) (w wr:World) (V k:Nat) (v4 v5:Value):Prop:=∃ (ps:List Nat) (A:Option Addr) (n c:Nat),v5=.slice A n c∧RdW wr wr.heap.size A n (dig k)∧n≤c∧c≤9223372036854775807∧wr.ownsRow w.heap.size T 1 v4 ps.length (u32s ps)∧Below w.heap.size w wr∧V=pv ps+k*1000000000^ps.length∧PsOk ps∧(k=0→ps≠[]∧PsTop ps)∧ps.length≤225
theorem itext_any (z:Int) (b:Bool) (A:Option Addr) (n c:Nat) (w:World) (h:LgIs w w.heap.size z b A n c) (ht:TabOk w) :
    Calls Tryz.prog 117 #[.agg #[.bool b,.slice A n c]] w (ItP z w):=by
 have HB0:Hid (Below w.heap.size w (w.alloc (.cells #[.bool b,.slice A n c] 113))):=lH (bA);have HX1:=lH (Blk.new w 113 #[.bool b,.slice A n c]);have H1:=lH (h.up HB0.o);have HT:=lH (ht.up HB0.o);have HEN:=lH h.en;have HEB:=lH h.eb;have hnc:=h.nc;have hcm:=h.cm;obtain ⟨i0,hi0,hz0,hz1,hz2⟩:=info_parts info_u32;have HI0:=lH hi0;have HI1:=lH hz0;have HI2:=lH hz1;have HI3:=lH hz2;clear h ht hi0 hz0 hz1 hz2;go_enter Tryz.func117,Tryz.ntmps117
 go_upto_region 1 with fail
 generalize w.alloc (.cells #[.bool b,.slice A n c] 113)=W at *;have p0:=HX1.o.cell 0;have p1:=HX1.o.cell 1;have pl:=HX1.o.lt
 by_cases h0:n=0
 ·subst h0
  have hz:z=0:=by
   have h:=HEN.o;refine Classical.byContradiction fun hne=>?_;rw [dlen_pos (by omega)] at h;omega
  subst hz
  go_wp2_with fail
  go_ret2;have hd:decide (ndg (0:Int).natAbs≤2000)=true:=by decide+kernel
  have ht0:textL 0=[48]:=by unfold textL;rw [show (0:Int).natAbs=0 from rfl,dec_small (by decide)];rfl
  exact ⟨HB0.o,⟨#[48]⟩,by rw [hd];rfl,fun _=>by rw [ht0],by decide⟩
 ·have hn0b:((n:Int) == 0)=false:=by simp;omega
  by_cases h210:210<n
  ·have hfit:¬ndg z.natAbs≤2000:=Nat.not_le.2 (many_words (by rw [←HEN.o];exact h210))
   have hnI:(210:Int)<(n:Int):=by omega
   go_wp2_with fail
   go_ret2;exact ⟨HB0.o,_,by rw [decide_eq_false hfit];rfl,fun h=>absurd h hfit,by decide⟩
  ·have hnI:(n:Int)≤210:=by omega
   have hz0:z.natAbs≠0:=fun e=>h0 (by rw [HEN.o,e];exact dlen_zero);clear h0
   go_wp2_with fail
   clear p0 p1 pl hn0b hnI
   go_loopg [4,5] z.natAbs (fun k v4 v5 wr=>TxI 216 W wr z.natAbs k v4 v5)
   case atStart=>exact ⟨[],A,n,c,rfl,H1.o.rd,hnc,hcm,World.ownsRow_nil _ _ _ _,bR,by simp [pv],fun x hx=>(by cases hx),fun e=>absurd e hz0,by simp⟩
   case round=>
    obtain ⟨ps,A5,n5,c5,rfl,hr5,hn5,hc5,ho4,hb5,hv5,hps,htop,hlen⟩:=hrel;have HR5:=lH hr5;have HO4:=lH ho4;have HB5:=lH hb5;have HV5:=lH hv5;have HPS:=lH hps;have HTP:=lH htop;have HL5:Hid (n5=dlen gk):=lH (by rw [←hr5.len];rfl);clear hr5 ho4 hb5 hv5 hps htop
    by_cases hk:gk=0
    ·subst hk
     have hn5:n5=0:=by rw [HL5.o,dlen_zero]
     subst hn5;have hk0':(0:Nat)=0:=rfl;obtain ⟨hne,htp⟩:=HTP.o hk0';have HTOP:=lH htp;obtain ⟨L,hL⟩:∃ L,ps.length=L:=⟨_,rfl⟩;have HLN:=lH hL;rw [hL] at HO4 hlen;have hL0:0<L:=by rw [←hL];exact List.length_pos_iff.2 hne
     have HD0:Hid (Dg ps 0=Lib.decDigits z.natAbs):=lH (by rw [dg_all hne,HV5.o,Nat.zero_mul,Nat.add_zero]);have hde:Dg ps L=[]:=by rw [←hL];exact dg_end ps
     have HDE:=lH hde;clear hL hk0' hne htp;obtain ⟨A4,c4,e4,hr4,hn4,hc4⟩:=rdW_own HO4.o;subst e4;have HR4:=lH hr4;have HXr:=lH (HX1.o.bl HB5.o);have HTr:=lH (HT.o.up (HB5.o));have HBr:=lH (HB0.o.tm HB5.o);have HB6:=lH ((Below.refl wr.heap.size wr).alloc lR (.cells #[.pointer none,.slice none 0 0] 233));have HBL:Hid (Lib.IsBuilder 233 5 wr.heap.size wr.heap.size (Lib.byteCells (Dg ps L)) (wr.alloc (.cells #[.pointer none,.slice none 0 0] 233))):=lH (.inl ⟨lR,.slice none 0 0,heap_alloc_new wr _,by rw [hde];exact World.ownsRow_nil _ _ _ _,by simp [Value.ownBlock]⟩);clear hr4 hn4 hc4 HR5 HO4 HV5 HL5 HTP hde;have hLI:(1:Int)≤(L:Int):=by omega
     have hLI2:(L:Int)≤225:=by omega
     go_wp2_with fail
     clear hLI hLI2;generalize wr=Wp at *;have hBP:Wp.heap.size≤Wp.heap.size:=lR
     go_loopw [9,10] (fun v9 v10 wr=>∃ k:Nat,k≤L∧v9=.int .i64 ((k:Int)-1)∧Lib.IsBuilder 233 5 Wp.heap.size Wp.heap.size (Lib.byteCells (Dg ps k)) wr∧Below Wp.heap.size Wp wr∧(Dg ps k).length+9*k≤9*L) (fun v9 _ _=>(intOf v9+1).toNat)
     case atStart=>exact ⟨L,lR,rfl,HBL.o,HB6.o,by rw [HDE.o];simp⟩
     case round=>
      clear HBL HB6;obtain ⟨k,hkL,rfl,hbl,hb2,hdl⟩:=hrel;have HBL:=lH hbl;have HB2:=lH hb2;have hWs:Wp.heap.size≤wr.heap.size:=hb2.size;clear hbl hb2
      by_cases hk:k=0
      ·subst hk
       have e:(((0:Nat):Int)-1)=-1:=rfl;rw [e];clear e;rw [HD0.o] at HBL;have hne:Lib.decDigits z.natAbs≠[]:=fun e=>by have:=dec_len_pos z.natAbs;rw [e] at this;simp at this
       go_wp2_with fail
       refine (Tryz.Builder_String Wp.heap.size Wp.heap.size (Lib.decDigits z.natAbs) wr HBL.o hne).mono ?_;rintro e w3 ⟨rfl,hb3⟩;have HB3:Hid (Below Wp.heap.size Wp w3):=lH (HB2.o.trans hb3);have HX3:=lH (HXr.o.bl HB3.o);have HBF:=lH (HBr.o.tm HB3.o);obtain ⟨sb,hsb⟩:∃ sb:ByteArray,⟨(Lib.decDigits z.natAbs).toArray⟩=sb:=⟨_,rfl⟩;have HSB:=lH hsb;rw [hsb];obtain ⟨N,hN⟩:∃ N,sb.size=N:=⟨_,rfl⟩;have HNN:Hid (ndg z.natAbs=N):=lH (by rw [←hN,←hsb,sz_arr];rfl);have hNb2:N≤2025:=by
        have:N=(Lib.decDigits z.natAbs).length:=by rw [←hN,←hsb,sz_arr]
        rw [HD0.o,←this] at hdl;omega
       have hNb:¬9223372036854775807<1+N:=by omega
       clear hb3 HB2 HBL hsb hne hdl;have p0:=HX3.o.cell 0;have pl:=HX3.o.lt;have hfd:decide (ndg z.natAbs≤2000)=decide ((N:Int)≤2000):=by rw [HNN.o];exact decide_eq_decide.2 (by omega)
       have HFD:=lH hfd;clear hfd;have HNB:=lH hNb2;have HEND:Hid (∀ s,s=(⟨(textL z).toArray⟩:ByteArray)→ItP z w (.returned (.tuple #[.string s,.bool (decide ((N:Int)≤2000))])) w3):=lH fun s hs=>⟨HBF.o,s,by rw [HFD.o],fun _=>hs,by
        rw [hs,sz_arr];have h1:=HNB.o;have h2:=HNN.o;unfold ndg at h2;unfold textL;rw [zE_]
        split<;>simp<;>omega⟩
       cases b with
       | true=>
        have hz:z<0:=by simpa using HEB.o.symm
        have HTX:Hid ((⟨#[45]⟩:ByteArray)++sb=⟨(textL z).toArray⟩):=lH (by
         rw [←HSB.o];apply ByteArray.ext;unfold textL;rw [if_pos hz];simp)
        go_wp2_with fail
        go_ret2;exact HEND.o _ HTX.o
       | false=>
        have hz:¬z<0:=by simpa using HEB.o.symm
        have HTX:Hid (sb=⟨(textL z).toArray⟩):=lH (by
         rw [←HSB.o];unfold textL;rw [if_neg hz,List.nil_append])
        go_wp2_with fail
        go_ret2;exact HEND.o _ HTX.o
      ·obtain ⟨j,rfl⟩:∃ j,k=j+1:=⟨k-1,by omega⟩
       have e:(((j+1:Nat):Int)-1)=(j:Int):=by omega
       rw [e];clear e hk;have hjL:j<L:=hkL;obtain ⟨x,hx⟩:∃ x,ps[j]?=some x:=zX_ (by have:=HLN.o;omega);have hx9:=HPS.o x (zC_ hx);have hxd:ps.getD j 0=x:=by rw [zD_,hx];rfl
       obtain ⟨b4,o4,hA4,hb4⟩:=HR4.o.form (by omega);subst hA4;have hc:=(HR4.o.below HB2.o lR).at_ (i:=j) (by omega);rw [hxd] at hc;have hjI:(j:Int)<(L:Int):=by omega
       have hx64:(x:Int) % 18446744073709551616=(x:Int):=by omega
       have HXJ:=lH hx;have HDL:=lH (dg_len hx HPS.o);have HRM:Hid ((intOf (Value.int .i64 ((j:Int)-1))+1).toNat<(intOf (Value.int .i64 (j:Int))+1).toNat):=lH (by simp [intOf]);clear hxd hx
       go_wp2_with fail
       refine (fmt_any x (by omega) wr (HTr.o.up (HB2.o.mono lR))).mono ?_;rintro e w3 ⟨rfl,hb3⟩;have HB3:=lH (HB2.o.trans (hb3.mono hWs));have HBL3:=lH (bld_up HBL.o hb3);have hW3:Wp.heap.size≤w3.heap.size:=HB3.o.size;obtain ⟨ds,hds⟩:∃ ds,Lib.decDigits x=ds:=⟨_,rfl⟩;have HDS:=lH hds;rw [hds] at HDL;rw [hds];have hds1:=HDL.o.1;have hds9:=HDL.o.2;clear hb3 hc HB2 HBL hds
       by_cases hjt:j+1=L
       ·have hjI2:¬(j:Int)<(L:Int)-1:=by omega
        have HDJ:Hid (Dg ps j=ds):=lH (by rw [←HDS.o];exact dg_top HXJ.o (by rw [HLN.o];exact hjt));have HD1:Hid (Dg ps (j+1)=[]):=lH (by rw [hjt,←HLN.o];exact dg_end ps);rw [HD1.o] at HBL3
        go_wp2_with fail
        refine (wrStr_any Wp.heap.size Wp.heap.size _ ⟨ds.toArray⟩ w3 HBL3.o (by rw [sz_arr,Lib.byteCells_length];simp;omega) hW3).mono ?_;rintro e w4 ⟨⟨v4,rfl⟩,hbl4,hb4⟩;have HBL4:Hid (Lib.IsBuilder 233 5 Wp.heap.size Wp.heap.size (Lib.byteCells (Dg ps j)) w4):=lH (.inr (by rw [HDJ.o];exact hbl4));have HB4:=lH (HB3.o.trans hb4);have HLL:Hid ((Dg ps j).length+9*j≤9*L):=lH (by rw [HDJ.o];omega);clear hbl4 hb4 HBL3 HB3
        go_wp2_with fail
        go_roundw
        case rel=>exact ⟨j,zQ_ hjL,rfl,HBL4.o,HB4.o,HLL.o⟩
        case measure=>exact HRM.o
       ·have hjI2:(j:Int)<(L:Int)-1:=by omega
        have HDJ:Hid (Dg ps j=Dg ps (j+1)++List.replicate (9-ds.length) 48++ds):=lH (by rw [←HDS.o];exact dg_low HXJ.o (by rw [HLN.o];omega) HPS.o HTOP.o);have hsl:∀ W,(Instr.sliceAt 9 (.string ⟨#[48,48,48,48,48,48,48,48,48]⟩) (some (.int .i64 (ds.length:Int))) none none).run Tryz.prog W=.ok (.string ⟨(List.replicate (9-ds.length) 48).toArray⟩) W:=zeros_at ds.length hds1 hds9;have hss:(⟨ds.toArray⟩:ByteArray).size=ds.length:=sz_arr ds
        go_wp2_with fail
        refine (wrStr_any Wp.heap.size Wp.heap.size _ ⟨Array.replicate (9-ds.length) 48⟩ w3 HBL3.o (by rw [Lib.byteCells_length];simp [ByteArray.size];omega) hW3).mono ?_;rintro e w4 ⟨⟨v4,rfl⟩,hbl4,hb4⟩;have HBL4:Hid (Lib.IsBuilder 233 5 Wp.heap.size Wp.heap.size (Lib.byteCells (Dg ps (j+1)++List.replicate (9-ds.length) 48)) w4):=lH (.inr (by
         rw [Lib.byteCells_append];have e:Lib.strCells ⟨Array.replicate (9-ds.length) 48⟩=Lib.byteCells (List.replicate (9-ds.length) 48):=by rw [Lib.strCells_eq];simp
         rw [←e];exact hbl4))
        have HB4:=lH (HB3.o.trans hb4);have hW4:Wp.heap.size≤w4.heap.size:=HB4.o.size;clear hbl4 hb4 HBL3 HB3 hsl hss
        go_wp2_with fail
        refine (wrStr_any Wp.heap.size Wp.heap.size _ ⟨ds.toArray⟩ w4 HBL4.o (by rw [sz_arr,Lib.byteCells_length,zE_,zO_];omega) hW4).mono ?_;rintro e w5 ⟨⟨v5,rfl⟩,hbl5,hb5⟩;have HBL5:Hid (Lib.IsBuilder 233 5 Wp.heap.size Wp.heap.size (Lib.byteCells (Dg ps j)) w5):=lH (.inr (by rw [HDJ.o,Lib.byteCells_append];exact hbl5));have HB5:=lH (HB4.o.trans hb5);have HLL:Hid ((Dg ps j).length+9*j≤9*L):=lH (by rw [HDJ.o,zE_,zE_,zO_];omega);clear hbl5 hb5 HBL4 HB4
        go_wp2_with fail
        go_roundw
        case rel=>exact ⟨j,zQ_ hjL,rfl,HBL5.o,HB5.o,HLL.o⟩
        case measure=>exact HRM.o
    ·have hn5p:0<n5:=by rw [HL5.o,dlen_pos hk];omega
     have hk0:0<gk:=by omega
     have hfew:ps.length<225:=few_parts (v:=z.natAbs) (by rw [←HEN.o];omega) hk0 (by rw [HV5.o];omega);have hn5l:n5≤35184372088832:=by
      rw [HL5.o];refine zI_ (dlen_mono (n:=z.natAbs) ?_) (by rw [←HEN.o];omega);have h1:1≤1000000000^ps.length:=Nat.one_le_pow _ _ (by decide);have h2:gk*1≤gk*1000000000^ps.length:=Nat.mul_le_mul_left _ h1;rw [HV5.o];omega
     go_wp2_with fail
     refine (sdivW A5 n5 c5 1000000000 (dig gk) wr HR5.o (wd_dig _) hn5l (by decide) (by decide)).mono ?_;rw [wv_dig];rintro e w6 ⟨hb6,g6,n6,l6,rfl,hr6,hd6,hv6,hn6,hg6⟩;have HB6:=lH (HB5.o.tm hb6);have HO6:=lH (ownL_up HO4.o hb6);have HR6:=lH hr6;have HD6:=lH hd6;have HV6:=lH hv6;obtain ⟨r,hr⟩:∃ r,gk % 1000000000=r:=⟨_,rfl⟩;have HR:=lH hr;rw [hr];have hr9:r<1000000000:=by rw [←hr];exact Nat.mod_lt _ (by decide)
     have HNE:Hid (some g6≠u4.ownBlock):=lH fun e=>by have:=(HO4.o.lt g6 e.symm).2;omega
     have HC6:=lH (cell_one_new w6 (.int .u32 (r:Int)) 216);clear hb6 hr6 hd6 hv6 HR5 HO4 HB5 hr
     go_wp2_with (at_builtin;refine wpList_append_own_at _ rfl (.tmp 31) (.tmp 33) _ rfl W.heap.size 216 i0 _ 1 4 Tryz.underlying111 HI0.o HI1.o HI2.o HI3.o rfl (by omega) u4 _ _ rfl (HO6.o.alloc _) ⟨_,0,none⟩ 1 1 [.int .u32 (r:Int)] rfl rfl HC6.o ?k1 ?k2 ?k3 ?k4 ?_)
     case k1=>intro u hu;rw [List.mem_singleton.1 hu];rfl
     case k2=>simp only [maxLen];omega
     case k3=>omega
     case k4=>have:=HB6.o.size;simp;omega
     intro v7 w7 hown7 hg7 hnil7 hat7;have hlt6:∀ g,u4.ownBlock=some g→W.heap.size≤g:=fun g hg=>((HO6.o.lt g hg).1);have HB7:=lH ((HB6.o.alloc HB6.o.size (.cells #[.int .u32 (r:Int)] 216)).grown hg7 (by have:=HB6.o.size;simp;omega) hlt6);have HR7:=lH (rdW_grown HR6.o lR hg7 HNE.o);have HO7:Hid (w7.ownsRow W.heap.size 216 1 v7 (ps++[r]).length (u32s (ps++[r]))):=lH (by
      rw [zE_,List.length_singleton];unfold u32s at hown7 ⊢;rw [List.map_append];exact hown7)
     clear hown7 hg7 hnil7 hat7 hlt6 HB6 HO6 HR6 HC6 HNE
     go_wp2_with fail
     refine (norm_any false (some ⟨g6,0,none⟩) n6 n6 l6 w7 HR7.o HD6.o lR (by omega)).mono ?_;rw [HV6.o];rintro e w8 ⟨hb8,b8,A8,n8,c8,rfl,h8⟩;have HB8:=lH (HB7.o.tm hb8);have HO8:=lH (ownL_up HO7.o hb8);have HRD:Hid (RdW w8 w8.heap.size A8 n8 (dig (gk / 1000000000))):=lH h8.rd;have hn8:=h8.nc;have hc8:=h8.cm;clear hb8 h8 HB7 HO7;have HVV:Hid (z.natAbs=pv (ps++[r])+gk / 1000000000*1000000000^(ps++[r]).length):=lH (by
      rw [HV5.o,pv_snoc,zE_,List.length_singleton,Nat.pow_succ];have h:=Nat.div_add_mod gk 1000000000;rw [HR.o] at h;generalize gk / 1000000000=q at *;generalize 1000000000^ps.length=X at *;rw [←h];grind)
     have HTT:Hid (gk / 1000000000=0→ps++[r]≠[]∧PsTop (ps++[r])):=lH fun h0=>⟨by simp,fun x hx=>by
      have h:=Nat.div_add_mod gk 1000000000;rw [HR.o,h0] at h;have:x=r:=by simpa using hx.symm
      omega⟩
     have HLL:Hid ((ps++[r]).length≤225):=lH (by rw [zE_,List.length_singleton];omega);have hfd:∀ w,(Instr.field 113 (.agg #[.bool b8,.slice A8 n8 c8]) 1).run Tryz.prog w=.ok (.slice A8 n8 c8) w:=fun _=>by kernel_rfl
     have HMM:Hid (gk / 1000000000<gk):=lH (by omega)
     go_wp2_with fail
     go_roundg (gk / 1000000000)
     case rel=>exact ⟨ps++[r],A8,n8,c8,rfl,HRD.o,hn8,hc8,HO8.o,HB8.o,HVV.o,psOk_snoc HPS.o hr9,HTT.o,HLL.o⟩
     case measure=>exact HMM.o
theorem hp_minus (l:List UInt8):Lib.hasPrefix (45::l) [45]=true:=by simp [Lib.hasPrefix]
theorem tp_minus (l:List UInt8):Lib.trimPrefix (45::l) [45]=l:=by unfold Lib.trimPrefix;rw [if_pos (hp_minus l)];rfl
theorem hp_dg {l:List UInt8} (h:AllDg l):Lib.hasPrefix l [45]=false:=by
 cases l with
 | nil=>rfl
 | cons c r=>
  have hc:=(h c (List.mem_cons_self ..)).1;have:((45:UInt8) == c)=false:=by
   cases hb:((45:UInt8) == c) with
   | false=>rfl
   | true=>have:=eq_of_beq hb;subst this;exact absurd hc (by decide)
  simp [Lib.hasPrefix,List.isPrefixOf,this]
theorem tp_dg {l:List UInt8} (h:AllDg l):Lib.trimPrefix l [45]=l:=by unfold Lib.trimPrefix;rw [hp_dg h];rfl
theorem ext_take (l:List UInt8) (n:Nat) (h:n≤l.length):(⟨l.toArray⟩:ByteArray).extract 0 n=⟨(l.take n).toArray⟩:=by
 apply ByteArray.ext;rw [ByteArray.data_extract];simp
theorem ext_drop (l:List UInt8) (n:Nat):(⟨l.toArray⟩:ByteArray).extract n l.length=⟨(l.drop n).toArray⟩:=by
 apply ByteArray.ext;rw [ByteArray.data_extract];apply Array.ext';simp;exact zH_ (by simp)
def rdZ (neg:Bool) (l:List UInt8):Int:=if neg then -(dv l:Int) else dv l
def rdT (neg:Bool) (l:List UInt8):ByteArray:=⟨((if neg then [45] else [])++l).toArray⟩
theorem lg_zero (w:World) (B:Nat):LgIs w B 0 false none 0 0:=⟨by simp,by rw [Int.natAbs_zero,dlen_zero],by rw [Int.natAbs_zero,dig_zero];exact rdW_nil _ _ _,lR,by decide⟩
theorem lg_sign {w:World} {B v:Nat} {A:Option Addr} {n c:Nat} (h:LgIs w B (v:Int) false A n c) (m:Bool):LgIs w B (sgn m v) (m && decide (0<n)) A n c:=by
 have hn:n=dlen v:=by rw [h.en,Int.natAbs_natCast]
 refine ⟨?_,by rw [sgn_abs];exact hn,by rw [sgn_abs];have:=h.rd;rwa [Int.natAbs_natCast] at this,h.nc,h.cm⟩;rw [sgn_neg];congr 1
 refine decide_eq_decide.2 ?_;rw [hn]
 by_cases h0:v=0
 ·subst h0;rw [dlen_zero]
 ·rw [dlen_pos h0];omega
theorem str_to (l:List UInt8) (k:Nat) (h:k≤l.length) (W:World):(Instr.sliceAt 9 (.string ⟨l.toArray⟩) none (some (.int .i64 (k:Int))) none).run Tryz.prog W=.ok (.string ⟨(l.take k).toArray⟩) W:=by
 rw [run_sliceAt_string W 9 _ _ _ _ Tryz.underlying9,run_slice_string_h W 9 _ Tryz.underlying9 .i64 (k:Int) (by omega) (by rw [sz_arr];omega),zL_,ext_take l k h]
theorem str_from (l:List UInt8) (k:Nat) (h:k≤l.length) (W:World):(Instr.sliceAt 9 (.string ⟨l.toArray⟩) (some (.int .i64 (k:Int))) none none).run Tryz.prog W=.ok (.string ⟨(l.drop k).toArray⟩) W:=by
 rw [run_sliceAt_string W 9 _ _ _ _ Tryz.underlying9,run_slice_string_l W 9 _ Tryz.underlying9 .i64 (k:Int) (by omega) (by rw [sz_arr];omega),zL_,sz_arr,ext_drop l k]
def RdI1 (g2 g4:Nat) (l:List UInt8) (w wr:World) (k:Nat) (v0:Value):Prop:=∃ (dn rs:List UInt8) (A:Option Addr) (n c:Nat),v0=.string ⟨rs.toArray⟩∧l=dn++rs∧k=rs.length∧(dn=[]∨rs.length % 9=0)∧Below w.heap.size w wr∧Blk wr g2 113 #[.bool false,.slice none 0 0]∧Blk wr g4 113 #[.bool false,.slice A n c]∧LgIs wr wr.heap.size (dv dn:Int) false A n c
theorem read_any (neg:Bool) (l:List UInt8) (hd:AllDg l) (hl:l.length≤1000000) (w:World) :
    Calls Tryz.prog 113 #[.string (rdT neg l)] w (LgP (rdZ neg l) w):=by
 have HP:Hid (Lib.hasPrefix (rdT neg l).data.toList [45]=neg):=lH (by cases neg;exact hp_dg hd;exact hp_minus l);have HT:Hid (Lib.trimPrefix (rdT neg l).data.toList [45]=l):=lH (by cases neg;exact tp_dg hd;exact tp_minus l);have HD:=lH hd;have HB0:Hid (Below w.heap.size w ((w.alloc (.cells #[.bool false,.slice none 0 0] 113)).alloc (.cells #[.bool false,.slice none 0 0] 113))):=lH ((bA).alloc (by simp) _);have HX1:Hid (Blk ((w.alloc (.cells #[.bool false,.slice none 0 0] 113)).alloc (.cells #[.bool false,.slice none 0 0] 113)) w.heap.size 113 #[.bool false,.slice none 0 0]):=lH ((Blk.new w _ _).alloc _);have HX2:Hid (Blk ((w.alloc (.cells #[.bool false,.slice none 0 0] 113)).alloc (.cells #[.bool false,.slice none 0 0] 113)) (w.heap.size+1) 113 #[.bool false,.slice none 0 0]):=lH (Blk.new_ (by simp));generalize rdT neg l=s at *;clear hd
 go_enter Tryz.func113,Tryz.ntmps113
 go_wp2_with fail
 refine (Tryz.strings_HasPrefix s ⟨#[45]⟩ _).mono ?_;rintro e w1 ⟨he,hw⟩;subst hw;rw [show (⟨#[45]⟩:ByteArray).data.toList=[45] from rfl,HP.o] at he;subst he
 go_wp2_with fail
 refine (Tryz.strings_TrimPrefix s ⟨#[45]⟩ _).mono ?_;rintro e w1 ⟨he,hw⟩;subst hw;rw [show (⟨#[45]⟩:ByteArray).data.toList=[45] from rfl,HT.o] at he;subst he
 go_wp2_with fail
 generalize ((w.alloc (.cells #[.bool false,.slice none 0 0] 113)).alloc (.cells #[.bool false,.slice none 0 0] 113))=W at *;obtain ⟨g4,hg4⟩:∃ g,w.heap.size+1=g:=⟨_,rfl⟩;rw [hg4] at HX2;have HG4:=lH hg4;rw [hg4];clear hg4;have hne24:w.heap.size≠g4:=by have:=HG4.o;omega
 have hg4l:w.heap.size≤g4:=by have:=HG4.o;omega
 go_loopg [0] l.length (fun k v0 wr=>RdI1 w.heap.size g4 l w wr k v0)
 case atStart=>exact ⟨[],l,none,0,0,rfl,rfl,rfl,.inl rfl,HB0.o,HX1.o,HX2.o,lg_zero _ _⟩
 case round=>
  clear HB0 HX1 HX2 HP HT;obtain ⟨dn,rs,A,n,c,rfl,hlr,hgk,hmd,hbr,hp2,hp4,ha⟩:=hrel;have HLR:=lH hlr;have HGK:=lH hgk;have HMD:=lH hmd;have HBR:=lH hbr;have HP2:=lH hp2;have HP4:=lH hp4;have HA:=lH ha;have HAN:Hid (n=dlen (dv dn)):=lH (by rw [ha.en,Int.natAbs_natCast]);have HSR:Hid ((⟨rs.toArray⟩:ByteArray).size=rs.length):=lH (sz_arr rs);clear hlr hgk hmd hbr hp2 hp4 ha
  by_cases hrs:rs.length=0
  ·have hs0:(⟨rs.toArray⟩:ByteArray).size=0:=by rw [HSR.o,hrs]
   have hdn:dn=l:=by rw [HLR.o,List.eq_nil_of_length_eq_zero hrs,List.append_nil]
   rw [hdn] at HA HAN;clear hdn hrs;have z0:=HP4.o.cell 0;have z1:=HP4.o.cell 1;have zf:=HP4.o.frozen;have zl:=HP4.o.lt;have HEND:Hid (∀ b,b=(neg && decide (0<n))→LgIs (wr.setCell ⟨g4,0,none⟩ (.bool b)) (wr.setCell ⟨g4,0,none⟩ (.bool b)).heap.size (rdZ neg l) b A n c):=lH fun b hb=>by
    rw [hb];exact (lg_sign HA.o neg).keep (HP4.o.cell 0) (by simp) _
   have HPX:Hid (∀ b,Blk (wr.setCell ⟨g4,0,none⟩ (.bool b)) g4 113 #[.bool b,.slice A n c]∧Blk (wr.setCell ⟨g4,0,none⟩ (.bool b)) w.heap.size 113 #[.bool false,.slice none 0 0]∧Below w.heap.size w (wr.setCell ⟨g4,0,none⟩ (.bool b))):=lH fun b=>⟨HP4.o.set_at (i:=0) (.bool b) (by simp),HP2.o.far hne24 _,HBR.o.setCell hg4l _⟩;have hgs:w.heap.size≤w.heap.size:=lR;have hc3:neg=false∨(neg=true∧n=0)∨(neg=true∧0<n):=by cases neg<;>simp<;>omega
   rcases hc3 with rfl | ⟨rfl,rfl⟩ | ⟨rfl,hn0⟩
   ·have hq0:=hs0
    go_upto_region 10 with fail
    clear z0 z1 zf zl;obtain ⟨hx1,hx2,hx3⟩:=HPX.o false;have hx4:=HEND.o false rfl;have HX1:=lH hx1;have HX2:=lH hx2;have HX3:=lH hx3;have HX4:=lH hx4;clear hx1 hx2 hx3 hx4 HEND HPX;generalize wr.setCell ⟨g4,0,none⟩ (.bool false)=V at *;have y0:=HX1.o.cell 0;have y1:=HX1.o.cell 1;have yl:=HX1.o.lt;have z0:=HX2.o.cell 0;have z1:=HX2.o.cell 1;have zf:=HX2.o.frozen;have zl:=HX2.o.lt
    go_wp2_with fail
    generalize hW9:(V.setCell ⟨_,0,none⟩ _).setCell ⟨_,1,none⟩ _=W9;have HP9:=lH (lg_put (e:=.returned (.agg #[.bool false,.slice A n c])) HX3.o hgs HX2.o (by simp) (by simp) HX4.o rfl);rw [hW9] at HP9;have HB9:Hid (Blk W9 _ 113 #[.bool false,.slice A n c]):=lH (by rw [←hW9];exact blk_set2 HX2.o);clear hW9 z0 z1 zf zl;have q0:=HB9.o.cell 0;have q1:=HB9.o.cell 1;exact bodyPost_ret (v:=.agg #[.bool false,.slice A n c]) (by simp [results,Tryz.results113,go_sem,q0,q1]) rfl HP9.o
   ·have h00:=hs0
    go_upto_region 10 with fail
    clear z0 z1 zf zl;obtain ⟨hx1,hx2,hx3⟩:=HPX.o false;have hx4:=HEND.o false (by simp);have HX1:=lH hx1;have HX2:=lH hx2;have HX3:=lH hx3;have HX4:=lH hx4;clear hx1 hx2 hx3 hx4 HEND HPX;generalize wr.setCell ⟨g4,0,none⟩ (.bool false)=V at *;have y0:=HX1.o.cell 0;have y1:=HX1.o.cell 1;have yl:=HX1.o.lt;have z0:=HX2.o.cell 0;have z1:=HX2.o.cell 1;have zf:=HX2.o.frozen;have zl:=HX2.o.lt
    go_wp2_with fail
    generalize hW9:(V.setCell ⟨_,0,none⟩ _).setCell ⟨_,1,none⟩ _=W9;have HP9:=lH (lg_put (e:=.returned (.agg #[.bool false,.slice A 0 c])) HX3.o hgs HX2.o (by simp) (by simp) HX4.o rfl);rw [hW9] at HP9;have HB9:Hid (Blk W9 _ 113 #[.bool false,.slice A 0 c]):=lH (by rw [←hW9];exact blk_set2 HX2.o);clear hW9 z0 z1 zf zl;have q0:=HB9.o.cell 0;have q1:=HB9.o.cell 1;exact bodyPost_ret (v:=.agg #[.bool false,.slice A 0 c]) (by simp [results,Tryz.results113,go_sem,q0,q1]) rfl HP9.o
   ·have hn0I:(0:Int)<(n:Int):=by omega
    go_upto_region 10 with fail
    clear z0 z1 zf zl;obtain ⟨hx1,hx2,hx3⟩:=HPX.o true;have hx4:=HEND.o true (by simp [hn0]);have HX1:=lH hx1;have HX2:=lH hx2;have HX3:=lH hx3;have HX4:=lH hx4;clear hx1 hx2 hx3 hx4 HEND HPX;generalize wr.setCell ⟨g4,0,none⟩ (.bool true)=V at *;have y0:=HX1.o.cell 0;have y1:=HX1.o.cell 1;have yl:=HX1.o.lt;have z0:=HX2.o.cell 0;have z1:=HX2.o.cell 1;have zf:=HX2.o.frozen;have zl:=HX2.o.lt
    go_wp2_with fail
    generalize hW9:(V.setCell ⟨_,0,none⟩ _).setCell ⟨_,1,none⟩ _=W9;have HP9:=lH (lg_put (e:=.returned (.agg #[.bool true,.slice A n c])) HX3.o hgs HX2.o (by simp) (by simp) HX4.o rfl);rw [hW9] at HP9;have HB9:Hid (Blk W9 _ 113 #[.bool true,.slice A n c]):=lH (by rw [←hW9];exact blk_set2 HX2.o);clear hW9 z0 z1 zf zl;have q0:=HB9.o.cell 0;have q1:=HB9.o.cell 1;exact bodyPost_ret (v:=.agg #[.bool true,.slice A n c]) (by simp [results,Tryz.results113,go_sem,q0,q1]) rfl HP9.o
  ·have hs0:(0:Int)<((⟨rs.toArray⟩:ByteArray).size:Int):=by rw [HSR.o];omega
   obtain ⟨L,hL⟩:∃ L,rs.length=L:=⟨_,rfl⟩;rw [hL] at hrs HSR HMD HGK;have HLL:=lH hL;obtain ⟨q,hq⟩:∃ q,(L-1) % 9=q:=⟨_,rfl⟩;have HQ:=lH hq;have hqL:q+1≤L:=by omega
   have hq9:q+1≤9:=by omega
   have hLl:L≤1000000:=by rw [←hL];refine zI_ ?_ hl;rw [HLR.o,zE_];omega
   have hdl:dn.length≤1000000:=by refine zI_ ?_ hl;rw [HLR.o,zE_];omega
   obtain ⟨ch,hch⟩:∃ ch,rs.take (q+1)=ch:=⟨_,rfl⟩;obtain ⟨rt,hrt⟩:∃ rt,rs.drop (q+1)=rt:=⟨_,rfl⟩;have hsl1:∀ W,(Instr.sliceAt 9 (.string ⟨rs.toArray⟩) none (some (.int .i64 ((q:Int)+1))) none).run Tryz.prog W=.ok (.string ⟨ch.toArray⟩) W:=fun W=>by
    have:=str_to rs (q+1) (by omega) W;rw [hch] at this;exact this
   have hsl2:∀ W,(Instr.sliceAt 9 (.string ⟨rs.toArray⟩) (some (.int .i64 ((q:Int)+1))) none none).run Tryz.prog W=.ok (.string ⟨rt.toArray⟩) W:=fun W=>by
    have:=str_from rs (q+1) (by omega) W;rw [hrt] at this;exact this
   have HSL2:=lH hsl2;have hadc:AllDg ch:=by
    rw [←hch];exact AllDg.take (fun x hx=>HD.o x (by rw [HLR.o];exact List.mem_append_right _ hx)) _
   have hadd:AllDg dn:=fun x hx=>HD.o x (by rw [HLR.o];exact List.mem_append_left _ hx);have hcl:ch.length=q+1:=by rw [←hch,zF_];omega
   have HPU:Hid (Lib.parseUintB 32 (⟨ch.toArray⟩:ByteArray).data.toList=.ok (dv ch)):=lH (by rw [show (⟨ch.toArray⟩:ByteArray).data.toList=ch from by simp];exact pu32 hadc (fun e=>by rw [e] at hcl;simp at hcl) (by omega));have hdc:dv ch<1000000000:=by
    have h1:=dv_lt hadc;have h2:10^ch.length≤10^9:=Nat.pow_le_pow_right (by decide) (by omega);omega
   have HSC:Hid ((⟨ch.toArray⟩:ByteArray).size≤9223372036854775806):=lH (by rw [sz_arr];omega);have HVA:Hid ((dv dn:Int)*1000000000+(dv ch:Int)=(dv (dn++ch):Int)):=lH (by
    rw [dv_part dn ch (HMD.o.imp id fun h=>by omega),Int.natCast_add,Int.natCast_mul];rfl)
   have HLR2:Hid (l=(dn++ch)++rt):=lH (by rw [HLR.o,List.append_assoc,←hch,←hrt,List.take_append_drop]);have HRTL:Hid (rt.length=L-(q+1)):=lH (by rw [←hrt,zS_];omega);have HR9:Hid (rt.length % 9=0):=lH (by rw [HRTL.o];omega);have HMS:Hid (rt.length<gk):=lH (by rw [HRTL.o,HGK.o];omega);have hdd:=dv_dlen hadd;have HS6:Hid (dlen ((dv dn:Int)*1000000000).natAbs≤35184372088832):=lH (by
    refine zI_ (dlen_mulZ _ _) ?_;rw [Int.natAbs_natCast,show (1000000000:Int).natAbs=1000000000 from rfl,dlen_one (n:=1000000000) (by decide) (by decide)];omega)
   have HS7:Hid (dlen (dv ch:Int).natAbs≤35184372088832):=lH (by
    rw [Int.natAbs_natCast];have:=dv_dlen hadc;omega)
   have HNN:Hid (n≤1000000):=lH (by rw [HAN.o];omega);have hrem:((L:Int)-1).tmod 9=(q:Int):=by
    rw [←hq,show ((L:Int)-1)=((L-1:Nat):Int) from by omega];rfl
   have hsz:=HSR.o;have hL1:(1:Int)≤(L:Int):=by omega
   clear hq hch hrt hsl2 hadc hadd hcl hL
   go_wp2_with fail
   refine (Tryz.strconv_ParseUint_10_at32_ok ⟨ch.toArray⟩ HSC.o (dv ch) HPU.o wr).mono ?_;rintro e w3 ⟨rfl,hw3⟩;have hb3:Below wr.heap.size wr w3:=by
    rcases hw3 with rfl | rfl
    ·exact bR
    ·exact Lib.bytesWorld_below _ _ _
   have HBR3:=lH (HBR.o.tm hb3);have HP23:=lH (HP2.o.bl hb3);have HP43:=lH (HP4.o.bl hb3);have HA3:=lH (HA.o.up hb3);clear hb3 hw3 HBR HP2 HP4 HA hsl1 hrem hsz hL1 hs0;have HBR:=HBR3;have HP2:=HP23;have HP4:=HP43;have HA:=HA3;clear HBR3 HP23 HP43 HA3;generalize wr=wq at *;generalize w3=wr at *;have z0:=HP4.o.cell 0;have z1:=HP4.o.cell 1;have zl:=HP4.o.lt;have hcv:(dv ch:Int) % 18446744073709551616=(dv ch:Int):=by omega
   have hcv2:IntKind.i64.wrap (dv ch:Int)=(dv ch:Int):=Go.IntWalk.i64_in _ (by omega)
   go_upto_region 7 with fail
   refine wp_region_last (S:=fun w'=>w'.cell? ⟨g4,0,none⟩=some (.bool false)∧w'.cell? ⟨g4,1,none⟩=some (.slice A n c)) 7 _ (by kernel_rfl) (by kernel_rfl) rfl ⟨z0,z1⟩ (fun hHeld=>?_);simp only [zK_,List.take_zero];refine takeH 0 (v:=?_) rfl (by kernel_rfl) (fun _ _ _ h=>h) (by rfl) ?_ hHeld ?_;rotate_left 1
   ·intro w' hSw;obtain ⟨s0,s1⟩:=hSw;go_simp<;>with_reducible rfl
   try simp only [Act.put,sA_,sB_,sC_]
   refine takeH 3 (v:=?_) rfl (by kernel_rfl) (fun _ _ _ h=>h) (by rfl) ?_ hHeld ?_;rotate_left 1
   ·intro w' hSw;obtain ⟨s0,s1⟩:=hSw;go_simp<;>with_reducible rfl
   try simp only [Act.put,sA_,sB_,sC_]
   refine takeH 4 (v:=?_) rfl (by kernel_rfl) (fun _ _ _ h=>h) (by rfl) ?_ hHeld ?_;rotate_left 1
   ·intro w' hSw;obtain ⟨s0,s1⟩:=hSw;go_simp<;>with_reducible rfl
   try simp only [Act.put,sA_,sB_,sC_]
   clear z0 z1;refine stepH 1 (by kernel_rfl) rfl (fun K hK=>?_);go_simp;refine (of_any 1000000000 _ (by decide) (by decide)).mono ?_;rintro e w5 ⟨hb5,f5,C5,i5,j5,rfl,h5⟩;have HB5:=lH ((below_drew (Below.refl wr.heap.size wr)).trans hb5);obtain ⟨M,hM,h5⟩:∃ M:Int,M=1000000000∧LgIs w5 w5.heap.size M f5 C5 i5 j5:=⟨_,rfl,h5⟩;have HM:=lH hM;have hi5:i5≤1:=by rw [h5.en,hM];exact dlen_le (show (1000000000:Nat)<4294967296^1 by decide)
   have H5:=lH h5;clear hb5 h5 hM;go_simp;refine hK.out _ _ ?_ (fun hHeld=>?_)
   ·exact ⟨(HP4.o.bl HB5.o).cell 0,(HP4.o.bl HB5.o).cell 1⟩
   clear hK K
   try simp only [Act.put,sA_,sB_,sC_]
   refine stepH 2 (by kernel_rfl) rfl (fun K hK=>?_);go_simp;refine (lgmul_any (dv dn:Int) M false A n c f5 C5 i5 j5 w5 (HA.o.up HB5.o) H5.o (zI_ (Nat.add_le_add HNN.o hi5) (by decide))).mono ?_;rintro e w6 ⟨hb6,f6,C6,i6,j6,rfl,h6⟩;have HB6:=lH (HB5.o.tm hb6);have H6:=lH h6;clear hb6 h6 H5;go_simp;refine hK.out _ _ ?_ (fun hHeld=>?_)
   ·exact ⟨(HP4.o.bl HB6.o).cell 0,(HP4.o.bl HB6.o).cell 1⟩
   clear hK K
   try simp only [Act.put,sA_,sB_,sC_]
   refine stepH 5 (by kernel_rfl) rfl (fun K hK=>?_);go_simp;refine (of_any (dv ch:Int) _ (by omega) (by omega)).mono ?_;rintro e w7 ⟨hb7,f7,C7,i7,j7,rfl,h7⟩;have HB7:=lH (HB6.o.tm hb7);have H7:=lH h7;have H67:=lH (H6.o.up hb7);clear hb7 h7 H6;go_simp;refine hK.out _ _ ?_ (fun hHeld=>?_)
   ·exact ⟨(HP4.o.bl HB7.o).cell 0,(HP4.o.bl HB7.o).cell 1⟩
   clear hK K
   try simp only [Act.put,sA_,sB_,sC_]
   refine stepH 6 (by kernel_rfl) rfl (fun K hK=>?_);go_simp;refine (add_any ((dv dn:Int)*M) (dv ch:Int) f6 C6 i6 j6 f7 C7 i7 j7 w7 H67.o H7.o (by rw [H67.o.en,HM.o];exact HS6.o) (by rw [H7.o.en];exact HS7.o)).mono ?_;rw [HM.o,HVA.o];rintro e w8 ⟨hb8,f8,C8,i8,j8,rfl,h8⟩;have HB8:=lH (HB7.o.tm hb8);have H8:=lH h8;clear hb8 h8 H67 H7;go_simp;refine hK.out _ _ ?_ (fun hHeld=>?_)
   ·exact ⟨(HP4.o.bl HB8.o).cell 0,(HP4.o.bl HB8.o).cell 1⟩
   clear hK K
   try simp only [Act.put,sA_,sB_,sC_]
   refine wpAnyH_done (by kernel_rfl) ?_ _;refine lastQ_go (by rfl) ?_;have hf8:f8=false:=by rw [H8.o.eb];exact decide_eq_false (Int.not_lt.2 (Int.natCast_nonneg _))
   subst hf8;have HP48:=lH (HP4.o.bl HB8.o);have HP28:=lH (HP2.o.bl HB8.o);have HBB8:=lH (HBR.o.tm HB8.o);have HLR3:=HLR2;have z0:=HP48.o.cell 0;have z1:=HP48.o.cell 1;have zf:=HP48.o.frozen;have zl:=HP48.o.lt
   go_upto_region 8 with fail
   clear z0 z1 zf zl;generalize hw9:(w8.setCell ⟨g4,0,none⟩ _).setCell ⟨g4,1,none⟩ _=w9;have HP49:Hid (Blk w9 g4 113 #[.bool false,.slice C8 i8 j8]):=lH (by rw [←hw9];exact blk_set2 HP48.o);have HP29:Hid (Blk w9 w.heap.size 113 #[.bool false,.slice none 0 0]):=lH (by rw [←hw9];exact (HP28.o.far hne24 _).far hne24 _);have HB9:Hid (Below w.heap.size w w9):=lH (by rw [←hw9];exact below_set2 HBB8.o hg4l);have H9:Hid (LgIs w9 w9.heap.size (dv (dn++ch):Int) false C8 i8 j8):=lH (by rw [←hw9];exact (H8.o.keep (HP48.o.cell 0) (by simp) _).keep ((HP48.o.set_ 0 (.bool false)).cell 1) (by simp) _);clear hw9;have hsl2:=HSL2.o
   go_wp2_with fail
   go_roundg rt.length
   case rel=>exact ⟨dn++ch,rt,C8,i8,j8,rfl,HLR2.o,rfl,.inr HR9.o,HB9.o,HP29.o,HP49.o,H9.o⟩
   case measure=>exact HMS.o
def dgB (c:UInt8):Bool:=decide (48≤c.toNat∧c.toNat≤57)
def natCk (l:List UInt8):Int:=if l.all dgB then (if l=[]∨(1<l.length∧l.head?=some 48) then 5 else if 2000<l.length then 2 else 0) else 5
theorem dgB_all {l:List UInt8}:l.all dgB=true↔AllDg l:=by
 rw [List.all_eq_true];unfold AllDg IsDg dgB;exact ⟨fun h c hc=>by simpa using h c hc,fun h c hc=>by simpa using h c hc⟩
theorem natCk_ok {l:List UInt8}:natCk l=0↔Canon l∧l.length≤2000:=by
 unfold natCk Canon
 by_cases h:l.all dgB=true
 ·rw [if_pos h]
  have ha:=dgB_all.1 h
  by_cases h1:l=[]∨(1<l.length∧l.head?=some 48)
  ·rw [if_pos h1]
   refine ⟨fun e=>(by cases e),fun ⟨⟨g1,g2,g3⟩,g4⟩=>?_⟩;rcases h1 with h1 | ⟨h1,h2⟩
   ·exact absurd h1 g1
   ·exact absurd h2 (g3 h1)
  ·rw [if_neg h1]
   have hn:l≠[]:=fun e=>h1 (.inl e);have hz:1<l.length→l.head?≠some 48:=fun g e=>h1 (.inr ⟨g,e⟩)
   by_cases h2:2000<l.length
   ·rw [if_pos h2]
    exact ⟨fun e=>(by cases e),fun ⟨_,g⟩=>by omega⟩
   ·rw [if_neg h2]
    exact ⟨fun _=>⟨⟨hn,ha,hz⟩,by omega⟩,fun _=>rfl⟩
 ·rw [if_neg h]
  exact ⟨fun e=>(by cases e),fun ⟨⟨_,g,_⟩,_⟩=>absurd (dgB_all.2 g) h⟩
theorem natck_any (s:ByteArray) (w:World) (hs:s.size≤maxLen) :
    Calls Tryz.prog 137 #[.string s] w fun e w'=>e=.returned (.int .i64 (natCk s.data.toList))∧Below w.heap.size w w':=by
 have hcv:=fun w=>run_bytes_of_string (P:=Tryz.prog) w 9 231 5 s Tryz.underlying9 Tryz.underlying231 Tryz.underlying5;unfold maxLen at hs;go_enter Tryz.func137,Tryz.ntmps137
 go_wp2_with fail
 clear hcv;generalize grownCap w s.size 0 5=cap;have hcell:∀ k (h:k<s.data.size),(w.alloc (.cells (bytesRow s cap) 5 ((bytesRow s cap).size,(bytesRow s cap).size+1))).cell? ⟨w.heap.size,k,none⟩=some (.int .u8 (s.data[k].toNat:Int)):=fun k h=>by
  rw [World.cell?_alloc_mark,bytesRow_at s cap k h]
 have HC:=lH hcell;have K0:Below w.heap.size w (w.alloc (.cells (bytesRow s cap) 5 ((bytesRow s cap).size,(bytesRow s cap).size+1))).drew:=below_drew (bA);have HK:=lH K0;have hlt0:w.heap.size<(w.alloc (.cells (bytesRow s cap) 5 ((bytesRow s cap).size,(bytesRow s cap).size+1))).heap.size:=by simp
 clear hcell K0;generalize (w.alloc (.cells (bytesRow s cap) 5 ((bytesRow s cap).size,(bytesRow s cap).size+1)))=w1 at *
 go_loop [4,8] (fun _ i=>∃ k:Nat,k≤s.size∧i=.int .i64 k∧s.data.toList.all dgB=(s.data.toList.drop k).all dgB) (fun _ i=>s.size-(intOf i).toNat)
 case atStart=>exact ⟨0,by omega,rfl,rfl⟩
 case round=>
  obtain ⟨k,hk,rfl,hgo⟩:=hrel;have HG:=lH hgo;clear hgo
  by_cases hlt:k<s.size
  ·obtain ⟨n,hn,hn2⟩:∃ n:Nat,n<256∧n=(s.data[k]'hlt).toNat:=⟨_,UInt8.toNat_lt _,rfl⟩
   have hc:=HC.o k hlt;rw [←hn2] at hc;have hd:s.data.toList.drop k=s.data[k]'hlt::s.data.toList.drop (k+1):=by
    rw [List.drop_eq_getElem_cons (by simp;exact hlt)];simp
   have HD:Hid ((s.data.toList.drop k).all dgB=(decide (48≤n∧n≤57) && (s.data.toList.drop (k+1)).all dgB)):=lH (by rw [hd,hn2];rfl);have hkI:(k:Int)<(s.size:Int):=by omega
   clear hd hn2
   by_cases h48:n<48
   ·have HN:Hid (natCk s.data.toList=5):=lH (by unfold natCk;rw [HG.o,HD.o,decide_eq_false (by omega),Bool.false_and];rfl)
    go_wp2_with fail
    go_ret;exact ⟨ret_int HN.o.symm,HK.o⟩
   ·by_cases h57:57<n
    ·have HN:Hid (natCk s.data.toList=5):=lH (by unfold natCk;rw [HG.o,HD.o,decide_eq_false (by omega),Bool.false_and];rfl)
     go_wp2_with fail
     go_ret;exact ⟨ret_int HN.o.symm,HK.o⟩
    ·have HN:Hid (s.data.toList.all dgB=(s.data.toList.drop (k+1)).all dgB):=lH (by rw [HG.o,HD.o,decide_eq_true (by omega),Bool.true_and])
     go_wp2_with fail
     go_round
     case rel=>exact ⟨k+1,by omega,by go_num,HN.o⟩
     case measure=>simp [intOf];omega
  ·have hd:s.data.toList.drop k=[]:=by rw [List.drop_eq_nil_iff];simp;exact Nat.le_of_not_lt hlt
   have HA:Hid (s.data.toList.all dgB=true):=lH (by rw [HG.o,hd];rfl);have hkI:¬(k:Int)<(s.size:Int):=by omega
   have HS:=lH (Lib.size_eq s);clear hd HG
   by_cases h0:s.size=0
   ·have hl:s.data.toList=[]:=List.eq_nil_of_length_eq_zero (by have:=HS.o;omega)
    have HN:Hid (natCk s.data.toList=5):=lH (by rw [hl];rfl);have hs0:s=⟨#[]⟩:=by apply ByteArray.ext;apply Array.ext';simpa using hl
    subst hs0
    go_wp2_with fail
    go_ret;exact ⟨ret_int HN.o.symm,HK.o⟩
   ·obtain ⟨c,r,hcr⟩:∃ c r,s.data.toList=c::r:=by
     cases hl:s.data.toList with
     | nil=>exact absurd (by have:=HS.o;rw [hl] at this;simpa using this) h0
     | cons c r=>exact ⟨c,r,rfl⟩
    have hem:s.toList.isEmpty=false:=by rw [ByteArray.toList_eq,hcr];rfl
    have hne:s.toList≠[]:=fun e=>by rw [e] at hem;cases hem
    have hs00:∀ h:0<s.size,(s[0]'h).toNat=c.toNat:=fun h=>by
     have:s.data.toList[0]?=some c:=by rw [hcr];rfl
     have h2:s.data[0]?=some c:=by simpa using this
     obtain ⟨h3,h4⟩:=Array.getElem?_eq_some_iff.1 h2;show (s.data[0]'h3).toNat=_;rw [h4]
    have HCR:=lH hcr;have hpos:0<s.size:=by omega
    have HSL:Hid (s.size=r.length+1):=lH (by rw [HS.o,hcr];rfl);clear hcr
    by_cases h1:1<s.size
    ·have h1I:(1:Int)<(s.size:Int):=by omega
     by_cases h48:c.toNat=48
     ·have h48b:((c.toNat:Int) == 48)=true:=by rw [h48];rfl
      have HN:Hid (natCk s.data.toList=5):=lH (by
       unfold natCk;rw [HA.o,if_pos rfl,if_pos (.inr ⟨by rw [←HS.o];exact h1,by rw [HCR.o];exact congrArg some (UInt8.toNat_inj.1 h48)⟩)])
      go_wp2_with fail
      go_ret;exact ⟨ret_int HN.o.symm,HK.o⟩
     ·have h48b:((c.toNat:Int) == 48)=false:=by simp;omega
      have hno:¬(s.data.toList=[]∨(1<s.data.toList.length∧s.data.toList.head?=some 48)):=by
       rw [HCR.o];rintro (h | ⟨_,h⟩)
       ·cases h
       ·injection h with h;subst h;exact h48 rfl
      have HNO:=lH hno;clear hno
      by_cases h2:2000<s.size
      ·have h2I:(2000:Int)<(s.size:Int):=by omega
       have HN:Hid (natCk s.data.toList=2):=lH (by unfold natCk;rw [HA.o,if_pos rfl,if_neg HNO.o,if_pos (by rw [←HS.o];exact h2)])
       go_wp2_with fail
       go_ret;exact ⟨ret_int HN.o.symm,HK.o⟩
      ·have h2I:¬(2000:Int)<(s.size:Int):=by omega
       have HN:Hid (natCk s.data.toList=0):=lH (by unfold natCk;rw [HA.o,if_pos rfl,if_neg HNO.o,if_neg (by rw [←HS.o];exact h2)])
       go_wp2_with fail
       go_ret;exact ⟨ret_int HN.o.symm,HK.o⟩
    ·have h1I:¬(1:Int)<(s.size:Int):=by omega
     have h2I:¬(2000:Int)<(s.size:Int):=by omega
     have HN:Hid (natCk s.data.toList=0):=lH (by
      unfold natCk;have hl:=HS.o;rw [HA.o,if_pos rfl,if_neg (by rw [HCR.o];rintro (h | ⟨h,_⟩);cases h;rw [HCR.o] at hl;omega),if_neg (by omega)])
     go_wp2_with fail
     go_ret;exact ⟨ret_int HN.o.symm,HK.o⟩
end
end Go.Proofs.YthgdchffeigkbaaGreatDoor
