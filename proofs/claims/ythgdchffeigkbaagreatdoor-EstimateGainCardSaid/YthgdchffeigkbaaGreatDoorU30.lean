import Derived.Test.YthgdchffeigkbaaGreatDoorU23
import Derived.Test.YthgdchffeigkbaaGreatDoorU27
set_option linter.unusedVariables false
set_option linter.unusedSimpArgs false
namespace Go.Proofs.YthgdchffeigkbaaGreatDoor
set_option maxHeartbeats 4000000
set_option maxRecDepth 100000
section
open Go.ChangeShapes Go.WideShapes Go.ChangeAt Go.RowKit Go.Joins Go.Deep
section
variable {H:Type} {enc:TypeId×Value→H} {w:World} {sp:Nat→Bool}
theorem open_Mi {fuel:Nat} {cs:List Value} {y:DataW H×List MemPlace} (h:DataW.trod enc Tryz.prog w 0 sp true fuel 57 cs=some y):∃ x:Mi,cs=x.cells∧x.txt.size≤maxLen:=by
 obtain ⟨hl,hf⟩:=open_flat Tryz.underlying57 (by kernel_rfl) (by kernel_rfl) h;obtain ⟨v0,n0,y0,hv0,ht0⟩:=hf 0 _ rfl;obtain ⟨v1,n1,y1,hv1,ht1⟩:=hf 1 _ rfl;obtain ⟨v2,n2,y2,hv2,ht2⟩:=hf 2 _ rfl;obtain ⟨v3,n3,y3,hv3,ht3⟩:=hf 3 _ rfl;obtain ⟨x0,e0,_⟩:=open_int1 Tryz.underlying3 ht0;obtain ⟨s,e1,_⟩:=open_str1 Tryz.underlying9 ht1;obtain ⟨t,e2,k2⟩:=open_str1 Tryz.underlying55 ht2;obtain ⟨x3,e3,_⟩:=open_int1 Tryz.underlying3 ht3;injection e0 with e0;injection e1 with e1;injection e2 with e2;injection e3 with e3;subst e0;subst e1;subst e2;subst e3;refine ⟨⟨x0,s,t,x3⟩,?_,k2⟩;have hl':cs.length=4:=hl
 match cs,hl',hv0,hv1,hv2,hv3 with
 | [c0,c1,c2,c3],_,hv0,hv1,hv2,hv3=>
  simp at hv0 hv1 hv2 hv3;subst hv0 hv1 hv2 hv3;rfl
theorem open_mis {r:Reach} {b0:Nat} {v:Value} {d:DataW H} {p:List MemPlace} (hv:Value.okWide Tryz.prog w r b0 31 v) (h:DataW.Trod enc Tryz.prog w 0 sp true 31 v d p) :
    ∃ (A:Option Addr) (n c:Nat) (l:List Mi),v=.slice A n c∧n≤c∧c≤maxLen∧(∀ m∈l,m.txt.size≤maxLen)∧RdMi w w.heap.size A n l:=by
 obtain ⟨A,n,c,rfl⟩:=okWide_slice Tryz.underlying31 hv;obtain ⟨fuel,hf⟩:=h;obtain ⟨A',n',c',xs,h1,h2,h3,hl,hq,h4⟩:=open_list Mi.cells 4 (fun x:Mi=>x.txt.size≤maxLen) Tryz.underlying31 (by kernel_rfl) (by omega) Mi.len (fun fu cs' y hy=>open_Mi hy) hf;simp [Value.cells] at h1;obtain ⟨rfl,rfl,rfl⟩:=h1;exact ⟨_,_,_,xs,rfl,h2,h3,hq,⟨hl,h4⟩⟩
end
end
section
open Go.ChangeShapes Go.WideShapes Go.ChangeAt Go.RowKit
attribute [local go_sem ↓] execOp_call_val
attribute [local go_sem] callVal_func setCell_drewN alloc_drewN sEq_walk NetH.cells
def tinyV (v:Vc):Bool:=v.ss.all fun s=>decide (s.size≤24)
def smallR (x:Net) (ms:List Mi) (vs:List Vc):Bool:=decide (x.nodes.length≤8) && decide (x.brs.length≤10) && ms.all (fun m=>decide (m.txt.size≤24)) && vs.all tinyV
theorem all_drop {α:Type} {l:List α} {k:Nat} {x:α} (f:α→Bool) (h:l[k]?=some x):(l.drop k).all f=(f x && (l.drop (k+1)).all f):=by rw [drop_cons h];rfl
theorem small_any (h:NetH) (x:Net) (A:Option Addr) (n c:Nat) (ms:List Mi) (B:Option Addr) (m d:Nat) (vs:List Vc) (w:World) (r:RdNet w w.heap.size h x) (hm:RdMi w w.heap.size A n ms) (hv:RdVc w w.heap.size B m vs) (hn:n≤9223372036854775807) (hmm:m≤9223372036854775807) :
    Calls Tryz.prog 16 #[.agg h.cells,.slice A n c,.slice B m d] w fun e w'=>e=.returned (.bool (smallR x ms vs))∧Below w.heap.size w w':=by
 have K0:Below w.heap.size w (w.alloc (.cells h.cells 29)):=bA;have HK:=lH K0;have HM:=lH hm;have HML:=lH hm.1;have HV:=lH hv;have HVL:=lH hv.1;have l0:=r.r0.1;have l2:=r.r2.1;have m0:=r.m0;have m2:=r.m2;obtain ⟨y0,y1,y2,y3,y4,y5,nf,nlt⟩:=net_box (Blk.new w 29 h.cells);simp only [NetH.cells] at HK y0 y1 y2 y3 y4 y5 nf nlt;clear K0 r hm hv;go_enter Tryz.func16,Tryz.ntmps16
 go_upto_region 1 with fail
 generalize w.alloc (.cells #[.slice h.A0 h.n0 h.c0,.slice h.A1 h.n1 h.c1,.slice h.A2 h.n2 h.c2,.slice h.A3 h.n3 h.c3,.slice h.A4 h.n4 h.c4,.slice h.A5 h.n5 h.c5] 29)=W at *
 by_cases g0:8<h.n0
 ·have g0I:(8:Int)<(h.n0:Int):=by omega
  have HE:Hid (smallR x ms vs=false):=lH (by unfold smallR;rw [decide_eq_false (by rw [l0];omega)];rfl)
  go_wp2_with fail
  go_ret;exact ⟨by rw [HE.o];rfl,HK.o⟩
 ·by_cases g2:10<h.n2
  ·have g0I:¬(8:Int)<(h.n0:Int):=by omega
   have g2I:(10:Int)<(h.n2:Int):=by omega
   have HE:Hid (smallR x ms vs=false):=lH (by unfold smallR;rw [decide_eq_false (p:=x.brs.length≤10) (by rw [l2];omega),Bool.and_false];rfl)
   go_wp2_with fail
   go_ret;exact ⟨by rw [HE.o];rfl,HK.o⟩
  ·have g0I:¬(8:Int)<(h.n0:Int):=by omega
   have g2I:¬(10:Int)<(h.n2:Int):=by omega
   have HS:Hid (smallR x ms vs=(ms.all (fun m=>decide (m.txt.size≤24)) && vs.all tinyV)):=lH (by unfold smallR;rw [decide_eq_true (by rw [l0];omega),decide_eq_true (by rw [l2];omega)];rfl);clear g0 g2 m0 m2
   go_wp2_with fail
   clear g0I g2I y0 y1 y2 y3 y4 y5 nf nlt l0 l2
   go_loopw [25] (fun v25 wr=>∃ k:Nat,k≤n∧v25=.int .i64 k∧ms.all (fun m=>decide (m.txt.size≤24))=(ms.drop k).all (fun m=>decide (m.txt.size≤24))∧Below w.heap.size w wr) (fun v25 _=>n-(intOf v25).toNat)
   case atStart=>exact ⟨0,by omega,rfl,rfl,HK.o⟩
   case round=>
    clear HK;obtain ⟨k,hk,rfl,hgo,hb⟩:=hrel;have HG:=lH hgo;have HB:=lH hb;clear hgo hb
    by_cases hlt:k<n
    ·obtain ⟨z,hz⟩:∃ z,ms[k]?=some z:=zX_ (by have:=HML.o;omega)
     obtain ⟨b,off,hA,hb⟩:=(HM.o.below HB.o lR).form (by omega);subst hA;obtain ⟨c0,c1,c2,c3⟩:=(HM.o.below HB.o lR).at_ hz;have hbl:b<wr.heap.size:=zJ_ hb HB.o.size;have HD:=lH (all_drop (fun m:Mi=>decide (m.txt.size≤24)) hz);have hkI:(k:Int)<(n:Int):=by omega
     have HN1:=lN k;have HN2:Hid (n-(k+1)<n-k):=lH (by omega);clear hz hb
     go_upto_region 6 with fail
     clear c0 c1 c2 c3;generalize hwa:wr.alloc (.cells #[.int .i64 z.kind,.string z.name,.string z.txt,.int .i64 z.wt] 57)=wa;have hba:Below wr.heap.size wr wa:=by rw [←hwa];exact bA
     have HZ:Hid (Blk wa wr.heap.size 57 #[.int .i64 z.kind,.string z.name,.string z.txt,.int .i64 z.wt]):=lH (by rw [←hwa];exact Blk.new wr _ _);have HBA:=lH (HB.o.tm hba);clear hwa hba hbl HB;obtain ⟨c0,c1,c2,c3,cf,cl⟩:=Mi.box HZ.o;clear HZ
     by_cases hs:24<z.txt.size
     ·have hsI:(24:Int)<(z.txt.size:Int):=by omega
      have HE:Hid (smallR x ms vs=false):=lH (by rw [HS.o,HG.o,HD.o,decide_eq_false (by omega)];rfl)
      go_wp2_with fail
      go_ret;exact ⟨by rw [HE.o];rfl,HBA.o⟩
     ·have hsI:¬(24:Int)<(z.txt.size:Int):=by omega
      have HE:Hid (ms.all (fun m=>decide (m.txt.size≤24))=(ms.drop (k+1)).all (fun m=>decide (m.txt.size≤24))):=lH (by rw [HG.o,HD.o,decide_eq_true (by omega),Bool.true_and]);clear hs
      go_wp2_with fail
      go_roundw
      case rel=>exact ⟨k+1,hlt,val_int HN1.o,HE.o,HBA.o⟩
      case measure=>exact HN2.o
    ·have hkI:¬(k:Int)<(n:Int):=by omega
     have HS2:Hid (smallR x ms vs=vs.all tinyV):=lH (by rw [HS.o,HG.o,List.drop_eq_nil_of_le (by have:=HML.o;omega)];rfl);clear HS HG
     go_wp2_with fail
     clear hkI hk hlt;generalize wr=wz at *
     go_loopw [36] (fun v36 wr=>∃ k:Nat,k≤m∧v36=.int .i64 k∧vs.all tinyV=(vs.drop k).all tinyV∧Below w.heap.size w wr) (fun v36 _=>m-(intOf v36).toNat)
     case atStart=>exact ⟨0,by omega,rfl,rfl,HB.o⟩
     case round=>
      clear HB;obtain ⟨i,hi,rfl,hgo,hb⟩:=hrel;have HG:=lH hgo;have HB:=lH hb;clear hgo hb
      by_cases hlt:i<m
      ·obtain ⟨v,hv⟩:∃ v,vs[i]?=some v:=zX_ (by have:=HVL.o;omega)
       obtain ⟨b,off,hA,hb⟩:=(HV.o.below HB.o lR).form (by omega);subst hA;have c0:=(HV.o.below HB.o lR).at_ hv;have hbl:b<wr.heap.size:=zJ_ hb HB.o.size;have HD:=lH (all_drop tinyV hv);have HVV:=lH (HV.o.2.2 v (zC_ hv)).1;have hvn:=(HV.o.2.2 v (zC_ hv)).2;have hiI:(i:Int)<(m:Int):=by omega
       have HM1:=lN i;have HM2:Hid (m-(i+1)<m-i):=lH (by omega);clear hv hb
       go_wp2_with fail
       clear c0 hbl;generalize wr=wy at *
       go_loopw [42] (fun v42 wr=>∃ k:Nat,k≤v.n∧v42=.int .i64 k∧tinyV v=(v.ss.drop k).all (fun s=>decide (s.size≤24))∧Below w.heap.size w wr) (fun v42 _=>v.n-(intOf v42).toNat)
       case atStart=>exact ⟨0,by omega,rfl,rfl,HB.o⟩
       case round=>
        clear HB;obtain ⟨k,hk,rfl,hgo,hb⟩:=hrel;have HG2:=lH hgo;have HB:=lH hb;clear hgo hb;have HVN:=lH HVV.o.1
        by_cases hlt2:k<v.n
        ·obtain ⟨s,hs⟩:∃ s,v.ss[k]?=some s:=zX_ (by have:=HVN.o;omega)
         obtain ⟨b2,off2,hA2,hb⟩:=(HVV.o.below HB.o lR).form (by omega);have c0:=HVV.o.below HB.o lR;rw [hA2] at c0;replace c0:=c0.at_ hs;have hbl:b2<wr.heap.size:=zJ_ hb HB.o.size;have HD2:=lH (all_drop (fun s:ByteArray=>decide (s.size≤24)) hs);have hkI:(k:Int)<(v.n:Int):=by omega
         have HN1:=lN k;have HN2:Hid (v.n-(k+1)<v.n-k):=lH (by omega);clear hs hb
         by_cases hz:24<s.size
         ·have hsI:(24:Int)<(s.size:Int):=by omega
          have HE:Hid (smallR x ms vs=false):=lH (by rw [HS2.o,HG.o,HD.o,HG2.o,HD2.o,decide_eq_false (by omega)];rfl)
          go_wp2_with fail
          go_ret;exact ⟨by rw [HE.o];rfl,HB.o⟩
         ·have hsI:¬(24:Int)<(s.size:Int):=by omega
          have HE:Hid (tinyV v=(v.ss.drop (k+1)).all (fun s=>decide (s.size≤24))):=lH (by rw [HG2.o,HD2.o,decide_eq_true (by omega),Bool.true_and]);clear hz
          go_wp2_with fail
          go_roundw
          case rel=>exact ⟨k+1,hlt2,val_int HN1.o,HE.o,HB.o⟩
          case measure=>exact HN2.o
        ·have hkI:¬(k:Int)<(v.n:Int):=by omega
         have HT:Hid (tinyV v=true):=lH (by rw [HG2.o,List.drop_eq_nil_of_le (by have:=HVN.o;omega)];rfl);have HE:Hid (vs.all tinyV=(vs.drop (i+1)).all tinyV):=lH (by rw [HG.o,HD.o,HT.o,Bool.true_and])
         go_wp2_with fail
         go_roundw
         case rel=>exact ⟨i+1,hlt,val_int HM1.o,HE.o,HB.o⟩
         case measure=>exact HM2.o
      ·have hiI:¬(i:Int)<(m:Int):=by omega
       have HE:Hid (smallR x ms vs=true):=lH (by rw [HS2.o,HG.o,List.drop_eq_nil_of_le (by have:=HVL.o;omega)];rfl)
       go_wp2_with fail
       go_ret;exact ⟨by rw [HE.o];rfl,HB.o⟩
end
end Go.Proofs.YthgdchffeigkbaaGreatDoor
