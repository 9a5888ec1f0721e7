import Derived.Test.YthgdchffeigkbaaGreatDoorU23
import Derived.Test.YthgdchffeigkbaaGreatDoorU25
set_option linter.unusedVariables false
set_option linter.unusedSimpArgs false
namespace Go.Proofs.YthgdchffeigkbaaGreatDoor
set_option maxHeartbeats 4000000
set_option maxRecDepth 100000
section
open Go.ChangeShapes Go.WideShapes Go.ChangeAt Go.RowKit
attribute [local go_sem ↓] execOp_call_val
attribute [local go_sem] callVal_func setCell_drewN alloc_drewN sEq_walk
def IsSl (u:Value):Prop:=∃ A n c,u=.slice A n c
structure VecS (w:World) (base:Nat) (v:Value) (hs:List Hd) (vss:List (List ByteArray)):Prop where
 own:OwnS IsSl w base 35 1 v hs.length (hs.map Hd.val)
 len:hs.length=vss.length
 rows:∀ (i:Nat) (h:Hd) (ss:List ByteArray),hs[i]?=some h→vss[i]?=some ss→RdStr w w.heap.size h.A h.n ss∧h.n≤9223372036854775807
theorem RdStr.keepsSl {w w':World} {base e n:Nat} {A:Option Addr} {ss:List ByteArray} (h:RdStr w w.heap.size A n ss) (k:Keeps IsSl base e w w'):RdStr w' w'.heap.size A n ss:=by
 refine ⟨h.1,h.2.1,fun hn=>?_⟩;obtain ⟨b,off,e1,hlt,hc⟩:=h.2.2 hn;refine ⟨b,off,e1,zJ_ hlt k.size,fun j u hu=>k.cell _ _ (hc j u hu) ?_⟩;rintro ⟨A',n',c',rfl⟩;have:=zC_ hu;unfold strsV at this;obtain ⟨s,-,e2⟩:=List.mem_map.1 this;cases e2
theorem vecS_none (w:World) (base:Nat):VecS w base (.slice none 0 0) [] []:=⟨ownS_none _ _ _ _ _,rfl,fun i h q hh=>by simp at hh⟩
theorem VecS.keep {w w':World} {base:Nat} {v:Value} {hs:List Hd} {vss:List (List ByteArray)} (m:VecS w base v hs vss) (hb:Below w.heap.size w w'):VecS w' base v hs vss:=⟨m.own.keep hb,m.len,fun i h q hh hq=>by
 obtain ⟨h1,h2⟩:=m.rows i h q hh hq;exact ⟨(h1.below hb lR).more hb.size,h2⟩⟩
theorem VecS.app {w w':World} {base:Nat} {v v':Value} {hs:List Hd} {vss:List (List ByteArray)} {z:Hd} {ss:List ByteArray} (m:VecS w base v hs vss) (hp:RdStr w w.heap.size z.A z.n ss∧z.n≤9223372036854775807) (h1:OwnS IsSl w' base 35 1 v' (hs.length+1) (hs.map Hd.val++[z.val])) (k:Keeps IsSl base 35 w w'):VecS w' base v' (hs++[z]) (vss++[ss]):=by
 refine ⟨by rw [zE_,List.length_singleton,List.map_append];exact h1,by rw [zE_,zE_,m.len];rfl,fun i h q hh hq=>?_⟩
 by_cases hi:i<vss.length
 ·rw [zR_ hi] at hq
  rw [zR_ (by rw [m.len];exact hi)] at hh;obtain ⟨r1,r2⟩:=m.rows i h q hh hq;exact ⟨r1.keepsSl k,r2⟩
 ·rw [zN_ (by omega)] at hq
  rw [zN_ (by rw [m.len];omega),m.len] at hh;have hi2:=(zB_.1 hq).1;rw [List.length_singleton] at hi2;have:i-vss.length=0:=by omega
  rw [this] at hq hh;simp at hq hh;subst hq;subst hh;exact ⟨hp.1.keepsSl k,hp.2⟩
theorem vec_flat:∀ (hs:List Hd) (vss:List (List ByteArray)),hs.length=vss.length→(List.zipWith (fun (h:Hd) ss=>(⟨h.A,h.n,h.c,ss⟩:Vc)) hs vss).flatMap Vc.cells=hs.map Hd.val
 | [],_,_=>rfl
 | h::hs,[],e=>by simp at e
 | h::hs,ss::vss,e=>by
  rw [List.zipWith_cons_cons,List.flatMap_cons,vec_flat hs vss (by simpa using e)];rfl
theorem VecS.rd {w:World} {base:Nat} {v:Value} {hs:List Hd} {vss:List (List ByteArray)} (m:VecS w base v hs vss):∃ A c vs,v=.slice A vss.length c∧RdVc w w.heap.size A vss.length vs∧vs.map Vc.ss=vss∧vss.length≤c∧c≤maxLen:=by
 obtain ⟨A,c,hv,hr,h1,h2,h3⟩:=own_rd m.own.own;rw [m.len] at hv hr h1;have hl:=m.len;refine ⟨A,c,List.zipWith (fun (h:Hd) ss=>(⟨h.A,h.n,h.c,ss⟩:Vc)) hs vss,hv,⟨by rw [List.length_zipWith];omega,by rw [vec_flat hs vss hl];exact hr,fun u hu=>?_⟩,?_,h1,h2⟩
 ·obtain ⟨i,hi⟩:=List.mem_iff_getElem?.1 hu
  rw [List.getElem?_zipWith] at hi;cases hh:hs[i]? with
  | none=>rw [hh] at hi;simp at hi
  | some h=>
   cases hq:vss[i]? with
   | none=>rw [hh,hq] at hi;simp at hi
   | some q=>
    rw [hh,hq] at hi;simp at hi;subst hi;exact m.rows i h q hh hq
 ·apply List.ext_getElem?
  intro i;rw [zM_,List.getElem?_zipWith];cases hq:vss[i]? with
  | none=>
   cases hh:hs[i]? with
   | none=>rfl
   | some h=>rfl
  | some q=>
   have hi:=(zB_.1 hq).1;obtain ⟨h,hh⟩:∃ h,hs[i]?=some h:=zX_ (by omega);rw [hh];rfl
theorem info_vec:(Tryz.prog.info? 35).map (fun i=>(i.zero,i.size,i.bytes))=some (some (.slice none 0 0),1,24):=by kernel_rfl
theorem wpList_appVec {ops:Array Oper} {rest:List Oper} {o:Oper} {a:Act} {Q:Exit→Act→World→Prop} {w:World} {T:TypeId} (hgd:o.guard=none) (s x:Operand) (t:TypeId)
    (ho:o.op=.call { callee:=.builtin .append,args:=#[s,x],argTypes:=#[t,t] }) (base:Nat)
    (ht:Tryz.prog.underlying t=some (.slice 35))
    (v:Value) (hs:List Hd) (vss:List (List ByteArray)) (hsv:a.eval s=v) (hown:VecS w base v hs vss) (A:Option Addr) (n c:Nat) (ss:List ByteArray) (hp:RdStr w w.heap.size A n ss) (hn:n≤9223372036854775807)
    (hx:a.eval x=.slice (some ⟨w.heap.size,0,none⟩) 1 1) (h63:vss.length≤1000000000) (hbase:base≤w.heap.size)
    (h:∀ v' w' hs',VecS w' base v' hs' (vss++[ss])→Below base w w'→wpList Tryz.prog ops Q rest (a.put o.dst v') w') :
    wpList Tryz.prog ops Q (o::rest) a (w.alloc (.cells #[.slice A n c] T)):=by
 obtain ⟨i0,hi0,hz0,hz1,hz2⟩:=info_parts info_vec;have hl:=hown.len;have hb:Below w.heap.size w (w.alloc (.cells #[.slice A n c] T)):=bA;refine wpList_appS (S:=IsSl) hgd s x t ho base 35 i0 _ 1 24 ht hi0 hz0 hz1 hz2 rfl (by omega) (fun u hu=>?_) v hs.length (hs.map Hd.val) hsv hown.own hx rfl (fun u hu=>?_) (by simp only [maxLen];omega) (by omega) hbase fun v' w' h1 h2 _=>?_
 ·have hu':u∈[Value.slice none 0 0]:=hu
  rw [List.mem_singleton.1 hu'];exact ⟨_,_,_,rfl⟩
 ·have hu':u∈[Value.slice A n c]:=hu
  rw [List.mem_singleton.1 hu'];exact ⟨rfl,_,_,_,rfl⟩
 exact h v' w' (hs++[⟨A,n,c⟩]) (VecS.app (hown.keep hb) (z:=⟨A,n,c⟩) ⟨(hp.below hb lR).more hb.size,hn⟩ h1 h2) ((hb.mono hbase).trans h2.low)
def MtP (M:List (List Rat)) (w:World) (e:Ending) (w':World):Prop:=Below w.heap.size w w'∧((∀ a∈M,∀ q∈a,Fits q)→∃ v hs,e=.returned (.tuple #[v,.int .i64 0])∧VecS w' w.heap.size v hs (M.map fun a=>a.map txtQ))∧(¬(∀ a∈M,∀ q∈a,Fits q)→e=.returned (.tuple #[.slice none 0 0,.int .i64 2]))
theorem mtext_any (A:Option Addr) (n c:Nat) (M:List (List Rat)) (w:World) (hR:RdM w w.heap.size A n M) (hn:n≤1000000) (hl:∀ a∈M,a.length≤1000000) (ht:TabOk w) :
    Calls Tryz.prog 80 #[.slice A n c] w (MtP M w):=by
 have HR:=lH hR;have HT:=lH ht;have HL:=lH hl;have HML:=lH hR.len;clear hR ht hl;go_enter Tryz.func80,Tryz.ntmps80
 go_wp2_with fail
 go_loopw [4,11] (fun v4 v11 wr=>∃ (k:Nat) (hs:List Hd),k≤n∧v11=.int .i64 k∧VecS wr w.heap.size v4 hs ((M.map fun a=>a.map txtQ).take k)∧(∀ (i:Nat) (a:List Rat),i<k→M[i]?=some a→∀ q∈a,Fits q)∧Below w.heap.size w wr) (fun _ v11 _=>n-(intOf v11).toNat)
 case atStart=>exact ⟨0,[],by omega,rfl,vecS_none _ _,fun i a h=>by omega,bR⟩
 case round=>
  obtain ⟨k,hs,hk,rfl,ho,hfit,hb⟩:=hrel;have HO:=lH ho;have HB:=lH hb;have HFIT:=lH hfit;clear ho hb hfit
  by_cases hlt:k<n
  ·obtain ⟨row,hrow⟩:∃ row,M[k]?=some row:=zX_ (by have:=HML.o;omega)
   have HTK:Hid ((M.map fun a=>a.map txtQ).take (k+1)=(M.map fun a=>a.map txtQ).take k++[row.map txtQ]):=lH (take_at (by rw [zM_,hrow];rfl));have hrm:=HR.o.up HB.o;obtain ⟨b,off,hA,hbl⟩:=hrm.form (by omega);subst hA;obtain ⟨⟨qa,qn,qc⟩,q0,q1,q2,q3⟩:=hrm.at_ hrow;dsimp only at q0 q1 q2 q3;have HQ:=lH q1;have HRL:Hid (qn≤1000000):=lH (by rw [←q1.len];exact HL.o row (zC_ hrow));have HROW:=lH hrow;have hkI:(k:Int)<(n:Int):=by omega
   have hk0:=lZ k
   have hkn:=zL_ k;have HNX:=lN k;have HNM:Hid (n-(k+1)<n-k):=lH (by omega);clear hrm hrow q1 q2 q3
   go_wp2_with fail
   refine (textvec_any qa qn qc row wr HQ.o HRL.o (HT.o.up HB.o)).mono ?_;rintro e w9 ⟨hb9,ht1,ht2⟩;have HB9:=lH (HB.o.tm hb9);have HO9:=lH (HO.o.keep hb9);have HT1:=lH ht1;have HT2:=lH ht2;clear hb9 ht1 ht2 q0 hbl
   by_cases hf:∀ q∈row,Fits q
   ·obtain ⟨A6,n6,c6,rfl,hr6,h61,h62⟩:=HT1.o hf
    have HR6:=lH hr6;have HF:=lH hf;have HN6:Hid (n6≤9223372036854775807):=lH (by have:=h61;have:=h62;unfold maxLen at h62;omega);have HGW:Hid (w.heap.size≤w9.heap.size):=lH HB9.o.size;clear hr6 HT1 HT2 hf
    go_wp2_with (at_builtin;refine wpList_appVec rfl (.tmp 23) (.tmp 25) _ rfl w.heap.size Tryz.underlying76 u4 hs _ rfl HO9.o A6 n6 c6 _ HR6.o HN6.o rfl ?k1 HGW.o ?_)
    case k1=>rw [zF_];omega
    intro v' wa hs' hvs hba;have HVS:Hid (VecS wa w.heap.size v' hs' ((M.map fun a=>a.map txtQ).take (k+1))):=lH (by rw [HTK.o];exact hvs);have HBA:=lH (HB9.o.trans hba);clear hvs hba
    go_wp2_with fail
    go_roundw
    case rel=>exact ⟨k+1,hs',hlt,val_int HNX.o,HVS.o,fun i a hi ha=>by
     by_cases e:i=k
     ·subst e
      rw [HROW.o] at ha;injection ha with ha;subst ha;exact HF.o
     ·exact HFIT.o i a (by omega) ha,HBA.o⟩
    case measure=>exact HNM.o
   ·obtain rfl:=HT2.o hf
    go_wp2_with fail
    go_ret2;exact ⟨HB9.o,fun h=>absurd (h row (zC_ HROW.o)) hf,fun _=>rfl⟩
  ·have hke:k=n:=by omega
   subst hke;have hkI:¬(k:Int)<(k:Int):=by omega
   have HOE:Hid (VecS wr w.heap.size u4 hs (M.map fun a=>a.map txtQ)):=lH (by
    have h:=HO.o;rw [zH_ (by rw [zG_];have:=HML.o;omega)] at h;exact h)
   have HALL:Hid (∀ a∈M,∀ q∈a,Fits q):=lH fun a ha=>by
    obtain ⟨i,hi⟩:=List.mem_iff_getElem?.1 ha;exact HFIT.o i a (by have:=(zB_.1 hi).1;have:=HML.o;omega) hi
   go_wp2_with fail
   go_ret2;exact ⟨HB.o,fun _=>⟨_,_,rfl,HOE.o⟩,fun h=>absurd HALL.o h⟩
end
end Go.Proofs.YthgdchffeigkbaaGreatDoor
