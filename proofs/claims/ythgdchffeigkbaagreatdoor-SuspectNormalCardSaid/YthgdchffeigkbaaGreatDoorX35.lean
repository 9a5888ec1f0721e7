import Derived.Test.YthgdchffeigkbaaGreatDoorX32
import Derived.Lib.SliceRun
import Derived.Lib.Walk
set_option linter.unusedVariables false
set_option linter.unusedSimpArgs false
namespace Go.Proofs.YthgdchffeigkbaaGreatDoor
set_option maxHeartbeats 8000000
set_option maxRecDepth 100000
section
open Go.ChangeShapes Go.WideShapes Go.ChangeAt Go.RowKit
attribute [local go_sem ↓] aE
attribute [local go_sem] aK aH aM aY
def rK:Array Value->Nat->List Value->Array Value
 | c,_,[]=>c
 | c,o,v::vs=>rK (c.setIfInBounds o v) (o+1) vs
theorem oO:∀ (vs:List Value) (c:Array Value) (o:Nat),(rK c o vs).size=c.size
 | [],c,o=>rfl
 | v::vs,c,o=>by unfold rK;rw [oO vs,Array.size_setIfInBounds]
theorem vO:∀ (vs:List Value) (c:Array Value) (o:Nat),o+vs.length<=c.size->(rK c o vs).toList=c.toList.take o++vs++c.toList.drop (o+vs.length)
 | [],c,o,h=>by
  show c.toList=_;rw [List.append_nil,zW_,Nat.add_zero,List.take_append_drop]
 | v::vs,c,o,h=>by
  rw [E_] at h;unfold rK;rw [vO vs _ (o+1) (by rw [Array.size_setIfInBounds];omega),Array.toList_setIfInBounds];have hl:o<c.toList.length:=by rw [Array.length_toList];omega
  have e1:(c.toList.set o v).take (o+1)=c.toList.take o++[v]:=by
   rw [List.set_eq_take_append_cons_drop,if_pos hl];rw [show o+1=(c.toList.take o).length+1 by rw [jP];omega,List.take_length_add_append];rfl
  have e2:(c.toList.set o v).drop (o+1+vs.length)=c.toList.drop (o+(v::vs).length):=by
   rw [List.drop_set_of_lt (by omega),E_];congr 1
   omega
  rw [e1,e2,List.append_assoc,List.append_assoc,List.append_assoc];rfl
theorem l7 {g t:Nat}:∀ (vs:List Value) (o:Nat) (w:Wo) (c:Array Value),aG w g t c->aG (w.setCells g o vs) g t (rK c o vs)
 | [],o,w,c,h=>h
 | v::vs,o,w,c,h=>by
  show aG ((w.setCell ⟨g,o,none⟩ v).setCells g (o+1) vs) g t (rK (c.setIfInBounds o v) (o+1) vs);exact l7 vs (o+1) _ _ (h.set_ o v)
theorem uG {g:Nat}:∀ (vs:List Value) (o:Nat) (w:Wo),Below g w (w.setCells g o vs)
 | [],o,w=>bR
 | v::vs,o,w=>((Below.refl g w).setCell lR v).trans (uG vs (o+1) _)
theorem uF {g b:Nat} (hb:b≠g):∀ (vs:List Value) (o:Nat) (w:Wo),(w.setCells g o vs).heap[b]?=w.heap[b]?
 | [],o,w=>rfl
 | v::vs,o,w=>by
  show ((w.setCell ⟨g,o,none⟩ v).setCells g (o+1) vs).heap[b]?=w.heap[b]?;rw [uF hb vs];simp [World.setCell,Array.getElem?_modify,Ne.symm hb]
section
variable {P:Program}
theorem xH (w:Wo) (t e ty:TypeId) (z:Value) (ht:P.underlying t=some (.slice e)) (hv:∀ w,(zeroValue e).run P w=.ok z w) (h1:∀ u∈z.cells.toList,u.oneCell'=true) (b o c:Nat)
    (hc:∀ j,j<z.cells.size->(w.cell? ⟨b,o+j,none⟩).isSome=true) (hf:∀ j,j<z.cells.size->w.frozen? ⟨b,o+j,none⟩=false) :
    (Builtin.clear_ #[t] ty #[.slice (some ⟨b,o,none⟩) 1 c]).run P w=.ok (.tuple #[]) (w.setCells b o z.cells.toList):=by
 have hzc:(Builtin.zeroCells z.cells 1).toList=z.cells.toList:=by
  apply List.ext_getElem?;intro i;unfold Builtin.zeroCells;rw [Array.toList_map,Array.toList_range,kI,Nat.one_mul]
  by_cases hi:i<z.cells.size
  ·rw [List.getElem?_range hi,Option.map_some,Nat.mod_eq_of_lt hi,getElem!_pos z.cells i hi,Array.getElem?_toList,Array.getElem?_eq_getElem hi]
  ·rw [List.getElem?_eq_none (by rw [List.length_range];omega),List.getElem?_eq_none (by rw [Array.length_toList];omega)]
   rfl
 have QC:=run_storeCells_cells (P:=P) b o z.cells.toList 0 w (by simpa using hc) (by simpa using hf) h1;simp only [Nat.add_zero] at QC;simp [Builtin.clear_,run_underlying ht,hv,hzc,QC]
end
def aNL (g T size n cap k:Nat) (cur:Array Value) (zc:List Value) (w:Wo) (e:Ending) (w':Wo):Prop:=
 e=.returned (.slice (some ⟨g,0,none⟩) (n-1) cap)/\∃ cur',aG w' g T cur'/\cur'.size=cur.size/\cur'.toList.take ((n-1)*size)=cur.toList.take (k*size)++(cur.toList.take (n*size)).drop ((k+1)*size)/\(∀ u∈cur'.toList,u∈cur.toList\/u∈zc)/\(∀ b,b<w.heap.size->b≠g->w'.heap[b]?=w.heap[b]?)/\Below g w w'
theorem LM {size n cap k:Nat} {cur:Array Value} {news zc:List Value} (hs:cur.size=cap*size) (hk:k<n) (hn:n<=cap) (iV:news=(cur.toList.take (n*size)).drop ((k+1)*size)) (hz:zc.length=size) :
    news.length=(n-(k+1))*size/\k*size+news.length<=cur.size/\(n-1)*size+zc.length<=(rK cur (k*size) news).size/\(rK (rK cur (k*size) news) ((n-1)*size) zc).toList.take ((n-1)*size)=cur.toList.take (k*size)++news/\∀ u∈(rK (rK cur (k*size) news) ((n-1)*size) zc).toList,u∈cur.toList\/u∈zc:=by
 have a1:n*size<=cap*size:=Nat.mul_le_mul_right _ hn;have a2:(k+1)*size<=n*size:=Nat.mul_le_mul_right _ (by omega);have a3:(n-(k+1))*size=n*size-(k+1)*size:=Nat.mul_sub_right_distrib _ _ _;have a4:(k+1)*size=k*size+size:=by rw [Nat.add_mul,Nat.one_mul]
 have a5:(n-1)*size+size=n*size:=by rw [<-Nat.succ_mul];congr 1;omega
 have l1:news.length=(n-(k+1))*size:=by
  rw [iV,EI,jP,Array.length_toList,hs,Nat.min_eq_left a1,a3]
 have l2:k*size+news.length<=cur.size:=by rw [l1,hs];omega
 have l3:(n-1)*size+zc.length<=(rK cur (k*size) news).size:=by rw [oO,hs,hz];omega
 have hm:k*size<=cur.toList.length:=by rw [Array.length_toList];omega
 have bH:=vO news cur (k*size) l2;have l4:(cur.toList.take (k*size)++news).length=(n-1)*size:=by
  rw [iC,jP,Nat.min_eq_left hm,l1];omega
 refine ⟨l1,l2,l3,?_,fun u hu=>?_⟩
 ·rw [vO _ _ _ l3,bH,List.append_assoc _ zc,List.take_append_of_le_length (by rw [jP,iC,l4];omega),List.take_take,Nat.min_self,<-l4]
  exact List.take_left
 ·rw [vO _ _ _ l3,List.mem_append,List.mem_append] at hu
  have key:∀ u∈(rK cur (k*size) news).toList,u∈cur.toList:=fun u hu=>by
   rw [bH,List.mem_append,List.mem_append] at hu;rcases hu with (hu | hu) | hu
   ·exact List.mem_of_mem_take hu
   ·rw [iV] at hu
    exact List.mem_of_mem_take (List.mem_of_mem_drop hu)
   ·exact List.mem_of_mem_drop hu
  rcases hu with (hu | hu) | hu
  ·exact .inl (key u (List.mem_of_mem_take hu))
  ·exact .inr hu
  ·exact .inl (key u (List.mem_of_mem_drop hu))
theorem aAn:(Tryz.prog.info? 3).map (fun i=>(i.zero,i.size))=some (some (.int .i64 0),1):=by kernel_rfl
theorem ZB (w:Wo):(zeroValue 3).run Tryz.prog w=.ok (.int .i64 0) w:=by kernel_rfl
theorem aFc (g n cap k:Nat) (cur:Array Value) (w:Wo) (hb:aG w g 3 cur) (QM:cur.size=cap*1) (hn:n<=cap) (hk:k<n) (JJ:cap<=maxLen) (h1:∀ u∈cur.toList.take (n*1),u.oneCell'=true) :
    Calls Tryz.prog 75 #[.slice (some ⟨g,0,none⟩) n cap,.int .i64 k,.int .i64 ((k:Int)+1)] w (aNL g 3 1 n cap k cur [.int .i64 0] w):=by
 obtain ⟨i,hi,aMg⟩:=Option.map_eq_some_iff.1 aAn;injection aMg with JI DG;obtain ⟨news,iV⟩:∃ news,news=(cur.toList.take (n*1)).drop ((k+1)*1):=⟨_,rfl⟩;obtain ⟨d1,d2,d3,d4,d5⟩:=LM (zc:=[.int .i64 0]) QM hk hn iV rfl;have aEu:∀ t u,news[t]?=some u->cur[(k+1)*1+t]?=some u:=fun t u hu=>by
  rw [iV,List.getElem?_drop,List.getElem?_take] at hu
  split at hu
  ·rw [<-Array.getElem?_toList];exact hu
  ·cases hu
 obtain ⟨A,hA,pX⟩:∃ A:Addr,(if cap=k+1 then (some ⟨g,0,none⟩:OA) else some ⟨g,(k+1)*1,none⟩)=some A/\Hid (∀ t u,news[t]?=some u->w.drew.cell? (A.add t)=some u):=by
  by_cases h:cap=k+1
  ·refine ⟨⟨g,0,none⟩,by rw [if_pos h],fun t u hu=>?_⟩
   have h0 : news.length = 0 := by
    rw [d1]; have : n - (k + 1) = 0 := by omega
    rw [this,Nat.zero_mul]
   rw [List.length_eq_zero_iff.1 h0] at hu;simp at hu
  ·refine ⟨⟨g,(k+1)*1,none⟩,by rw [if_neg h],fun t u hu=>?_⟩
   rw [Addr.add_lit];show w.cell? ⟨g,(k+1)*1+t,none⟩=some u;rw [hb.cell];exact aEu t u hu
 have LC:=hA
 try simp only [Nat.mul_one] at LC
 have s1:Hid (news.length=(n-(k+1))*1):=d1;have s2:Hid (∀ u∈news,u.oneCell'=true):=fun u hu=>by
  rw [iV] at hu;exact h1 u (List.mem_of_mem_drop hu)
 have s3:Hid (∀ t,t<news.length->(w.drew.cell? ⟨g,0+k*1+t,none⟩).isSome=true/\w.drew.frozen? ⟨g,0+k*1+t,none⟩=false):=fun t ht=>by
  rw [Nat.zero_add];refine ⟨?_,hb.frozen _⟩;show (w.cell? ⟨g,k*1+t,none⟩).isSome=true;rw [hb.cell,Array.getElem?_eq_getElem (by omega)];rfl
 obtain ⟨W1,hW1⟩:∃ W1,W1=w.drew.setCells g (0+k*1) news:=⟨_,rfl⟩;have JQ:=lH hW1;have bS:Hid (aG W1 g 3 (rK cur (k*1) news)):=lH (by
  rw [hW1,Nat.zero_add];exact l7 news _ _ _ hb)
 have HZC:Hid (∀ ty,(Builtin.clear_ #[30] ty #[.slice (some ⟨g,(n-1)*1,none⟩) 1 (cap-(n-1))]).run Tryz.prog W1=.ok (.tuple #[]) (W1.setCells g ((n-1)*1) [.int .i64 0])):=lH fun ty=>
  xH W1 30 3 ty (.int .i64 0) Tryz.underlying30 ZB (by intro u hu;simp [Value.cells] at hu;rcases hu with rfl | rfl | rfl | rfl<;>rfl) g ((n-1)*1) _ (fun j hj=>by
   rw [bS.o.cell,Array.getElem?_eq_getElem (by have:j<1:=hj;have e:([.int .i64 0]:List Value).length=1:=rfl;omega)];rfl) (fun j hj=>bS.o.frozen _)
 have HD4:=lH d4;have HD5:=lH d5;have HS:=lH QM;have HB:=lH hb;have HNW:=lH iV;have hkc:k<=cap:=by omega
 have X7:k+1<=cap:=by omega
 clear hW1 aEu iV d1 d2 d3 d4 d5 hb h1 QM;have wX:(cap:Int)<=9223372036854775807:=by unfold maxLen at JJ;omega
 have hnI:(n:Int)<=9223372036854775807:=by omega
 have kF:=lZ k
 have aIg:(0:Int)<=(k:Int)+1:=by omega
 have aU1:(k:Int)<=(k:Int)+1:=by omega
 have aL9:(k:Int)+1<=(n:Int):=by omega
 have aUK:(n:Int)<=(cap:Int):=by omega
 have aU3:(k:Int)<=(cap:Int):=by omega
 have aPY:(k:Int)+1<=(cap:Int):=by omega
 have qW:=kU k;have aL_:((k:Int)+1).toNat=k+1:=by omega
 have cP:((k:Int) == (k:Int)+1)=false:=by simp;omega
 have SP:=kU n;go_enter Tryz.func75,Tryz.ntmps75
 go_wp2_with fail
 go_region_law (refine step_append_room rfl (.tmp 22) (.tmp 25) 30 rfl 3 i 1 Tryz.underlying30 hi DG g 0 k cap (by simp [Act.eval,Act.put]) A (n-(k+1)) (cap-(k+1)) news (by simp [Act.eval,Act.put,LC]) s1.out pX.out s2.out (by omega) s3.out ?_;rw [<-JQ.o])
 go_wp2_with fail
 have e1:k+(n-(k+1))=n-1:=by omega
 have e2:n-(n-1)=1:=by omega
 have hz:=HZC.o 0
 try simp only [Nat.mul_one] at hz
 simp only [e1,e2];rw [hz]
 go_wp2_with fail
 go_ret;refine ⟨rfl,rK (rK cur (k*1) news) ((n-1)*1) [.int .i64 0],?_,by rw [oO,oO],by rw [<-HNW.o];exact HD4.o,HD5.o,fun b hb cP=>?_,?_⟩
 ·have h:=l7 [.int .i64 0] ((n-1)*1) _ _ bS.o
  try simp only [Nat.mul_one] at h ⊢
  exact h
 ·rw [uF cP,JQ.o,uF cP]
  rfl
 ·refine Below.trans ?_ (uG _ _ _)
  rw [JQ.o];exact Below.trans (aD bR) (uG _ _ _)
theorem aAm:(Tryz.prog.info? 57).map (fun i=>(i.zero,i.size))=some (some (.agg #[.int .i64 0,.string ⟨#[]⟩,.string ⟨#[]⟩,.int .i64 0]),4):=by kernel_rfl
theorem ZA (w:Wo):(zeroValue 57).run Tryz.prog w=.ok (.agg #[.int .i64 0,.string ⟨#[]⟩,.string ⟨#[]⟩,.int .i64 0]) w:=by kernel_rfl
theorem aFb (g n cap k:Nat) (cur:Array Value) (w:Wo) (hb:aG w g 57 cur) (QM:cur.size=cap*4) (hn:n<=cap) (hk:k<n) (JJ:cap<=maxLen) (h1:∀ u∈cur.toList.take (n*4),u.oneCell'=true) :
    Calls Tryz.prog 76 #[.slice (some ⟨g,0,none⟩) n cap,.int .i64 k,.int .i64 ((k:Int)+1)] w (aNL g 57 4 n cap k cur [.int .i64 0,.string ⟨#[]⟩,.string ⟨#[]⟩,.int .i64 0] w):=by
 obtain ⟨i,hi,aMg⟩:=Option.map_eq_some_iff.1 aAm;injection aMg with JI DG;obtain ⟨news,iV⟩:∃ news,news=(cur.toList.take (n*4)).drop ((k+1)*4):=⟨_,rfl⟩;obtain ⟨d1,d2,d3,d4,d5⟩:=LM (zc:=[.int .i64 0,.string ⟨#[]⟩,.string ⟨#[]⟩,.int .i64 0]) QM hk hn iV rfl;have aEu:∀ t u,news[t]?=some u->cur[(k+1)*4+t]?=some u:=fun t u hu=>by
  rw [iV,List.getElem?_drop,List.getElem?_take] at hu
  split at hu
  ·rw [<-Array.getElem?_toList];exact hu
  ·cases hu
 obtain ⟨A,hA,pX⟩:∃ A:Addr,(if cap=k+1 then (some ⟨g,0,none⟩:OA) else some ⟨g,(k+1)*4,none⟩)=some A/\Hid (∀ t u,news[t]?=some u->w.drew.cell? (A.add t)=some u):=by
  by_cases h:cap=k+1
  ·refine ⟨⟨g,0,none⟩,by rw [if_pos h],fun t u hu=>?_⟩
   have h0 : news.length = 0 := by
    rw [d1]; have : n - (k + 1) = 0 := by omega
    rw [this,Nat.zero_mul]
   rw [List.length_eq_zero_iff.1 h0] at hu;simp at hu
  ·refine ⟨⟨g,(k+1)*4,none⟩,by rw [if_neg h],fun t u hu=>?_⟩
   rw [Addr.add_lit];show w.cell? ⟨g,(k+1)*4+t,none⟩=some u;rw [hb.cell];exact aEu t u hu
 have LC:=hA
 try simp only [Nat.mul_one] at LC
 have s1:Hid (news.length=(n-(k+1))*4):=d1;have s2:Hid (∀ u∈news,u.oneCell'=true):=fun u hu=>by
  rw [iV] at hu;exact h1 u (List.mem_of_mem_drop hu)
 have s3:Hid (∀ t,t<news.length->(w.drew.cell? ⟨g,0+k*4+t,none⟩).isSome=true/\w.drew.frozen? ⟨g,0+k*4+t,none⟩=false):=fun t ht=>by
  rw [Nat.zero_add];refine ⟨?_,hb.frozen _⟩;show (w.cell? ⟨g,k*4+t,none⟩).isSome=true;rw [hb.cell,Array.getElem?_eq_getElem (by omega)];rfl
 obtain ⟨W1,hW1⟩:∃ W1,W1=w.drew.setCells g (0+k*4) news:=⟨_,rfl⟩;have JQ:=lH hW1;have bS:Hid (aG W1 g 57 (rK cur (k*4) news)):=lH (by
  rw [hW1,Nat.zero_add];exact l7 news _ _ _ hb)
 have HZC:Hid (∀ ty,(Builtin.clear_ #[31] ty #[.slice (some ⟨g,(n-1)*4,none⟩) 1 (cap-(n-1))]).run Tryz.prog W1=.ok (.tuple #[]) (W1.setCells g ((n-1)*4) [.int .i64 0,.string ⟨#[]⟩,.string ⟨#[]⟩,.int .i64 0])):=lH fun ty=>
  xH W1 31 57 ty (.agg #[.int .i64 0,.string ⟨#[]⟩,.string ⟨#[]⟩,.int .i64 0]) Tryz.underlying31 ZA (by intro u hu;simp [Value.cells] at hu;rcases hu with rfl | rfl | rfl | rfl<;>rfl) g ((n-1)*4) _ (fun j hj=>by
   rw [bS.o.cell,Array.getElem?_eq_getElem (by have:j<4:=hj;have e:([.int .i64 0,.string ⟨#[]⟩,.string ⟨#[]⟩,.int .i64 0]:List Value).length=4:=rfl;omega)];rfl) (fun j hj=>bS.o.frozen _)
 have HD4:=lH d4;have HD5:=lH d5;have HS:=lH QM;have HB:=lH hb;have HNW:=lH iV;have hkc:k<=cap:=by omega
 have X7:k+1<=cap:=by omega
 clear hW1 aEu iV d1 d2 d3 d4 d5 hb h1 QM;have wX:(cap:Int)<=9223372036854775807:=by unfold maxLen at JJ;omega
 have hnI:(n:Int)<=9223372036854775807:=by omega
 have kF:=lZ k
 have aIg:(0:Int)<=(k:Int)+1:=by omega
 have aU1:(k:Int)<=(k:Int)+1:=by omega
 have aL9:(k:Int)+1<=(n:Int):=by omega
 have aUK:(n:Int)<=(cap:Int):=by omega
 have aU3:(k:Int)<=(cap:Int):=by omega
 have aPY:(k:Int)+1<=(cap:Int):=by omega
 have qW:=kU k;have aL_:((k:Int)+1).toNat=k+1:=by omega
 have cP:((k:Int) == (k:Int)+1)=false:=by simp;omega
 have SP:=kU n;go_enter Tryz.func76,Tryz.ntmps76
 go_wp2_with fail
 go_region_law (refine step_append_room rfl (.tmp 22) (.tmp 25) 31 rfl 57 i 4 Tryz.underlying31 hi DG g 0 k cap (by simp [Act.eval,Act.put]) A (n-(k+1)) (cap-(k+1)) news (by simp [Act.eval,Act.put,LC]) s1.out pX.out s2.out (by omega) s3.out ?_;rw [<-JQ.o])
 go_wp2_with fail
 have e1:k+(n-(k+1))=n-1:=by omega
 have e2:n-(n-1)=1:=by omega
 have hz:=HZC.o 0
 try simp only [Nat.mul_one] at hz
 simp only [e1,e2];rw [hz]
 go_wp2_with fail
 go_ret;refine ⟨rfl,rK (rK cur (k*4) news) ((n-1)*4) [.int .i64 0,.string ⟨#[]⟩,.string ⟨#[]⟩,.int .i64 0],?_,by rw [oO,oO],by rw [<-HNW.o];exact HD4.o,HD5.o,fun b hb cP=>?_,?_⟩
 ·have h:=l7 [.int .i64 0,.string ⟨#[]⟩,.string ⟨#[]⟩,.int .i64 0] ((n-1)*4) _ _ bS.o
  try simp only [Nat.mul_one] at h ⊢
  exact h
 ·rw [uF cP,JQ.o,uF cP]
  rfl
 ·refine Below.trans ?_ (uG _ _ _)
  rw [JQ.o];exact Below.trans (aD bR) (uG _ _ _)
end
