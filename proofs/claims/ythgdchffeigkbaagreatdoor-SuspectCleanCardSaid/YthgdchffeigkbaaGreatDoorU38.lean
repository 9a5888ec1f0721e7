import Derived.Test.YthgdchffeigkbaaGreatDoorU35
import Derived.Lib.SliceRun
import Derived.Lib.Walk
set_option linter.unusedVariables false
set_option linter.unusedSimpArgs false
namespace Go.Proofs.YthgdchffeigkbaaGreatDoor
set_option maxHeartbeats 8000000
set_option maxRecDepth 100000
section
open Go.ChangeShapes Go.WideShapes Go.ChangeAt Go.RowKit
attribute [local go_sem ↓] execOp_call_val
attribute [local go_sem] callVal_func setCell_drewN alloc_drewN sEq_walk
theorem flat_set {α:Type} {el:α→List Value} {sz:Nat} (hlen:∀ a,(el a).length=sz):∀ (xs:List α) (i:Nat) (x y:α) (j:Nat) (u:Value),xs[i]?=some x→j<sz→el y=(el x).set j u→(xs.set i y).flatMap el=(xs.flatMap el).set (i*sz+j) u
 | [],i,x,y,j,u,h,_,_=>by simp at h
 | a::r,0,x,y,j,u,h,hj,he=>by
  simp at h;subst h;simp only [List.set_cons_zero,List.flatMap_cons,he,Nat.zero_mul,Nat.zero_add];rw [List.set_append_left _ _ (by rw [hlen];exact hj)]
 | a::r,i+1,x,y,j,u,h,hj,he=>by
  simp only [List.set_cons_succ,List.flatMap_cons];rw [flat_set hlen r i x y j u (by simpa using h) hj he,List.set_append_right _ _ (by rw [hlen,Nat.succ_mul];omega),hlen];congr 2
  rw [Nat.succ_mul];omega
section
variable {w:World} {base n c i:Nat} {A:Option Addr} {ms:List Mi} {m:Mi}
theorem OwnMi.at_ (h:OwnMi w base (.slice A n c) ms) (hm:ms[i]?=some m):∃ g,A=some ⟨g,0,none⟩∧base≤g∧g<w.heap.size∧w.cell? ⟨g,i*4,none⟩=some (.int .i64 m.kind)∧w.cell? ⟨g,i*4+1,none⟩=some (.string m.name)∧w.cell? ⟨g,i*4+2,none⟩=some (.string m.txt)∧w.cell? ⟨g,i*4+3,none⟩=some (.int .i64 m.wt)∧(∀ o,w.frozen? ⟨g,o,none⟩=false)∧
    ∀ (j:Nat) (u:Value) (m':Mi),j<4→Mi.cells m'=(Mi.cells m).set j u→OwnMi (w.setCell ⟨g,i*4+j,none⟩ u) base (.slice A n c) (ms.set i m'):=by
 have hi:=(zB_.1 hm).1;unfold OwnMi at h;rcases h.2 with ⟨h1,h2⟩ | ⟨g,cap,cur,h1,h2,h3,h4,h5,h6,h7⟩
 ·omega
 ·have hb:Blk w g 57 cur:=h3
  have key:∀ j y,j<4→(Mi.cells m)[j]?=some y→w.cell? ⟨g,i*4+j,none⟩=some y:=fun j y hj hy=>by
   rw [hb.cell];have:=flat_at Mi.len ms i m hm j hj;rw [hy,←h7,List.getElem?_take] at this
   split at this
   ·rwa [Array.getElem?_toList] at this
   ·cases this
  injection h1 with e1 e2 e3;refine ⟨g,e1,h2,hb.lt,key 0 _ (by decide) rfl,key 1 _ (by decide) rfl,key 2 _ (by decide) rfl,key 3 _ (by decide) rfl,fun o=>hb.frozen o,fun j u m' hj he=>?_⟩;unfold OwnMi;rw [zU_,flat_set Mi.len ms i m m' j u hm hj he];refine ⟨by rw [zU_];exact h.1,.inr ⟨g,cap,cur.setIfInBounds (i*4+j) u,by rw [e1,e2,e3],h2,hb.set_ _ u,h4,h5,by rw [Array.size_setIfInBounds];exact h6,?_⟩⟩;rw [Array.toList_setIfInBounds,take_set _ _ _ _ (by omega),h7]
end
theorem ownNo_lit0 {w:World}:OwnS NoI (w.alloc (.cells #[] 93)) w.heap.size 93 1 (.slice (some ⟨w.heap.size,0,none⟩) 0 0) 0 []:=
 ⟨rfl,.inr ⟨w.heap.size,0,#[],rfl,lR,Blk.new w _ _,lR,by simp [maxLen],rfl,rfl,fun u hu=>by simp at hu⟩⟩
theorem OwnS.mono {S:Value→Prop} {w:World} {base base' e size n:Nat} {v:Value} {xs:List Value} (h:OwnS S w base e size v n xs) (hb:base'≤base):OwnS S w base' e size v n xs:=
 ⟨h.1,h.2.imp id fun ⟨g,cap,cur,h1,h2,h3⟩=>⟨g,cap,cur,h1,zI_ hb h2,h3⟩⟩
theorem wpList_appRows {ops:Array Oper} {rest:List Oper} {o:Oper} {a:Act} {w:World} {Q:Exit→Act→World→Prop} (hgd:o.guard=none) (s x:Operand) (t:TypeId)
    (ho:o.op=.call { callee:=.builtin .append,args:=#[s,x],argTypes:=#[t,t] }) (base:Nat) (ht:Tryz.prog.underlying t=some (.slice 93))
    (v:Value) (hs:List Hd) (hsv:a.eval s=v) (hown:OwnS NoI w base 93 1 v hs.length (hs.map Hd.val))
    (A:Option Addr) (m c:Nat) (h2:List Hd) (hm:h2.length=m) (hx:a.eval x=.slice A m c) (hr:Rd w w.heap.size 1 A m (h2.map Hd.val)) (h63:hs.length+m≤1000000000) (hbase:base≤w.heap.size) (N:Nat) (hN:(hs++h2).length=N)
    (h:∀ A' c' w',OwnS NoI w' base 93 1 (.slice A' N c') (hs++h2).length ((hs++h2).map Hd.val)→Below base w w'→Keeps NoI base 93 w w'→wpList Tryz.prog ops Q rest (a.put o.dst (.slice A' N c')) w'):wpList Tryz.prog ops Q (o::rest) a w:=by
 refine wpList_plain hgd fun K hK=>?_;exact wp_appRows s x t ho base ht v hs hsv hown A m c h2 hm hx hr h63 hbase N hN fun A' c' w' a1 a2 a3=>hK _ _ (h A' c' w' a1 a2 a3)
theorem cloneM_any (A:Option Addr) (n c:Nat) (hs:List Hd) (w:World) (hl:hs.length=n) (hr:Rd w w.heap.size 1 A n (hs.map Hd.val)) (hn:n≤1000000) :
    Calls Tryz.prog 89 #[.slice A n c] w fun e w'=>Below w.heap.size w w'∧∃ A' c',e=.returned (.slice A' n c')∧OwnS NoI w' w.heap.size 93 1 (.slice A' n c') hs.length (hs.map Hd.val):=by
 have q22:∀ (w:World) (a:Option Addr) (n c n' c':Nat),(binOp .eql 92 (.slice a n c) (.slice none n' c')).run Tryz.prog w=.ok (.bool a.isNone) w:=fun w a n c n' c'=>Lib.run_eql_slice_nil w _ _ a n c n' c' Tryz.underlying92;have HL:=lH hl;have HR:=lH hr;cases A with
 | none=>
  have h0:n=0:=by
   rcases Nat.eq_zero_or_pos n with h | h
   ·exact h
   ·obtain ⟨b,off,e,_⟩:=hr.2 h;cases e
  subst h0;have hnil:hs=[]:=List.eq_nil_of_length_eq_zero hl;subst hnil;clear hl hr HL HR;go_enter Tryz.func89,Tryz.ntmps89
  go_wp2_with fail
  go_ret;exact ⟨bR,none,0,rfl,ownS_none _ _ _ _ _⟩
 | some ad=>
  clear hl hr;have hz:Below w.heap.size w (w.alloc (.cells #[] 93)):=bA;have HZ:=lH hz;clear hz;go_enter Tryz.func89,Tryz.ntmps89
  go_wp2_with (at_builtin;refine wpList_appRows rfl _ _ 92 rfl w.heap.size Tryz.underlying92 _ [] rfl ownNo_lit0 (some ad) n c hs HL.o rfl ?qc1 ?qc2 ?qc3 n ?qc4 ?_)
  case qc1=>exact (HR.o.below HZ.o lR).more HZ.o.size
  case qc2=>simp only [zW_];omega
  case qc3=>exact HZ.o.size
  case qc4=>rw [List.nil_append];exact HL.o
  intro A' c' w' ho hb _;have HO:Hid (OwnS NoI w' w.heap.size 93 1 (.slice A' n c') hs.length (hs.map Hd.val)):=lH ho;have HB:=lH (HZ.o.trans hb);clear ho hb
  go_wp2_with fail
  go_ret;exact ⟨HB.o,A',c',rfl,HO.o⟩
theorem cloneMi_any (A:Option Addr) (n c:Nat) (ms:List Mi) (w:World) (hr:RdMi w w.heap.size A n ms) (hn:n≤1000000) :
    Calls Tryz.prog 52 #[.slice A n c] w fun e w'=>Below w.heap.size w w'∧∃ A' c',e=.returned (.slice A' n c')∧OwnMi w' w.heap.size (.slice A' n c') ms:=by
 have q22:∀ (w:World) (a:Option Addr) (n c n' c':Nat),(binOp .eql 31 (.slice a n c) (.slice none n' c')).run Tryz.prog w=.ok (.bool a.isNone) w:=fun w a n c n' c'=>Lib.run_eql_slice_nil w _ _ a n c n' c' Tryz.underlying31;have HR:=lH hr;cases A with
 | none=>
  have h0:n=0:=by
   rcases Nat.eq_zero_or_pos n with h | h
   ·exact h
   ·obtain ⟨b,off,e,_⟩:=hr.2.2 h;cases e
  subst h0;have hnil:ms=[]:=List.eq_nil_of_length_eq_zero hr.1;subst hnil;clear hr HR;go_enter Tryz.func52,Tryz.ntmps52
  go_wp2_with fail
  go_ret;exact ⟨bR,none,0,rfl,ownMi_none _ _⟩
 | some ad=>
  clear hr;have hz:Below w.heap.size w (w.alloc (.cells #[] 57)):=bA;have HZ:=lH hz;clear hz;go_enter Tryz.func52,Tryz.ntmps52
  go_wp2_with (at_builtin;refine wpList_appMi rfl _ _ 31 rfl w.heap.size Tryz.underlying31 _ [] rfl ownMi_lit0 (some ad) n c ms rfl ?qc1 ?qc2 ?qc3 n ?qc4 ?_)
  case qc1=>exact (HR.o.below HZ.o lR).more HZ.o.size
  case qc2=>simp only [zW_];omega
  case qc3=>exact HZ.o.size
  case qc4=>rw [List.nil_append];exact HR.o.1
  intro A' c' w' ho hb _;have HO:Hid (OwnMi w' w.heap.size (.slice A' n c') ms):=lH ho;have HB:=lH (HZ.o.trans hb);clear ho hb
  go_wp2_with fail
  go_ret;exact ⟨HB.o,A',c',rfl,HO.o⟩
theorem RdQ.keepsI {w w':World} {A:Option Addr} {n base e:Nat} {qs:List Rat} (h:RdQ w w.heap.size A n qs) (k:Keeps IsI base e w w'):RdQ w' w'.heap.size A n qs:=by
 obtain ⟨vs,h1,h2,h3,h4⟩:=h;refine ⟨vs,h1,h2,⟨h3.1,fun hn=>?_⟩,fun i q v hq hv=>(h4 i q v hq hv).keepsI k⟩;obtain ⟨b,off,e,hlt,hc⟩:=h3.2 hn;refine ⟨b,off,e,zJ_ hlt k.size,fun j u hu=>k.cell _ _ (hc j u hu) ?_⟩;rintro ⟨y,hy⟩;exact (rvs_noI vs u (zC_ hu)).2 _ _ hy
theorem RdM.keepsI {w w':World} {A:Option Addr} {n base e:Nat} {M:List (List Rat)} (h:RdM w w.heap.size A n M) (k:Keeps IsI base e w w'):RdM w' w'.heap.size A n M:=by
 obtain ⟨hs,h1,h2,h3,h4⟩:=h;refine ⟨hs,h1,h2,⟨h3.1,fun hn=>?_⟩,fun i a q hh hq=>⟨(h4 i a q hh hq).1.keepsI k,(h4 i a q hh hq).2⟩⟩;obtain ⟨b,off,e,hlt,hc⟩:=h3.2 hn;refine ⟨b,off,e,zJ_ hlt k.size,fun j u hu=>k.cell _ _ (hc j u hu) ?_⟩;rintro ⟨y,hy⟩;exact (hd_noI hs u (zC_ hu)).2 _ _ hy
def setM:Array Value→Nat→List Value→Array Value
 | c,_,[]=>c
 | c,o,v::vs=>setM (c.setIfInBounds o v) (o+1) vs
theorem setM_size:∀ (vs:List Value) (c:Array Value) (o:Nat),(setM c o vs).size=c.size
 | [],c,o=>rfl
 | v::vs,c,o=>by unfold setM;rw [setM_size vs,Array.size_setIfInBounds]
theorem setM_list:∀ (vs:List Value) (c:Array Value) (o:Nat),o+vs.length≤c.size→(setM c o vs).toList=c.toList.take o++vs++c.toList.drop (o+vs.length)
 | [],c,o,h=>by
  show c.toList=_;rw [List.append_nil,zW_,Nat.add_zero,List.take_append_drop]
 | v::vs,c,o,h=>by
  rw [zV_] at h;unfold setM;rw [setM_list vs _ (o+1) (by rw [Array.size_setIfInBounds];omega),Array.toList_setIfInBounds];have hl:o<c.toList.length:=by rw [Array.length_toList];omega
  have e1:(c.toList.set o v).take (o+1)=c.toList.take o++[v]:=by
   rw [List.set_eq_take_append_cons_drop,if_pos hl];rw [show o+1=(c.toList.take o).length+1 by rw [zF_];omega,List.take_length_add_append];rfl
  have e2:(c.toList.set o v).drop (o+1+vs.length)=c.toList.drop (o+(v::vs).length):=by
   rw [List.drop_set_of_lt (by omega),zV_];congr 1
   omega
  rw [e1,e2,List.append_assoc,List.append_assoc,List.append_assoc];rfl
theorem blk_setCells {g t:Nat}:∀ (vs:List Value) (o:Nat) (w:World) (c:Array Value),Blk w g t c→Blk (w.setCells g o vs) g t (setM c o vs)
 | [],o,w,c,h=>h
 | v::vs,o,w,c,h=>by
  show Blk ((w.setCell ⟨g,o,none⟩ v).setCells g (o+1) vs) g t (setM (c.setIfInBounds o v) (o+1) vs);exact blk_setCells vs (o+1) _ _ (h.set_ o v)
theorem sc_below {g:Nat}:∀ (vs:List Value) (o:Nat) (w:World),Below g w (w.setCells g o vs)
 | [],o,w=>bR
 | v::vs,o,w=>((Below.refl g w).setCell lR v).trans (sc_below vs (o+1) _)
theorem sc_other {g b:Nat} (hb:b≠g):∀ (vs:List Value) (o:Nat) (w:World),(w.setCells g o vs).heap[b]?=w.heap[b]?
 | [],o,w=>rfl
 | v::vs,o,w=>by
  show ((w.setCell ⟨g,o,none⟩ v).setCells g (o+1) vs).heap[b]?=w.heap[b]?;rw [sc_other hb vs];simp [World.setCell,Array.getElem?_modify,Ne.symm hb]
section
variable {P:Program}
theorem run_clear_one (w:World) (t e ty:TypeId) (z:Value) (ht:P.underlying t=some (.slice e)) (hv:∀ w,(zeroValue e).run P w=.ok z w) (h1:∀ u∈z.cells.toList,u.oneCell'=true) (b o c:Nat)
    (hc:∀ j,j<z.cells.size→(w.cell? ⟨b,o+j,none⟩).isSome=true) (hf:∀ j,j<z.cells.size→w.frozen? ⟨b,o+j,none⟩=false) :
    (Builtin.clear_ #[t] ty #[.slice (some ⟨b,o,none⟩) 1 c]).run P w=.ok (.tuple #[]) (w.setCells b o z.cells.toList):=by
 have hzc:(Builtin.zeroCells z.cells 1).toList=z.cells.toList:=by
  apply List.ext_getElem?;intro i;unfold Builtin.zeroCells;rw [Array.toList_map,Array.toList_range,zM_,Nat.one_mul]
  by_cases hi:i<z.cells.size
  ·rw [List.getElem?_range hi,Option.map_some,Nat.mod_eq_of_lt hi,getElem!_pos z.cells i hi,Array.getElem?_toList,Array.getElem?_eq_getElem hi]
  ·rw [List.getElem?_eq_none (by rw [List.length_range];omega),List.getElem?_eq_none (by rw [Array.length_toList];omega)]
   rfl
 have hst:=run_storeCells_cells (P:=P) b o z.cells.toList 0 w (by simpa using hc) (by simpa using hf) h1;simp only [Nat.add_zero] at hst;simp [Builtin.clear_,run_underlying ht,hv,hzc,hst]
end
def DelP (g T size n cap k:Nat) (cur:Array Value) (zc:List Value) (w:World) (e:Ending) (w':World):Prop:=
 e=.returned (.slice (some ⟨g,0,none⟩) (n-1) cap)∧∃ cur',Blk w' g T cur'∧cur'.size=cur.size∧cur'.toList.take ((n-1)*size)=cur.toList.take (k*size)++(cur.toList.take (n*size)).drop ((k+1)*size)∧(∀ u∈cur'.toList,u∈cur.toList∨u∈zc)∧(∀ b,b<w.heap.size→b≠g→w'.heap[b]?=w.heap[b]?)∧Below g w w'
theorem del_cells {size n cap k:Nat} {cur:Array Value} {news zc:List Value} (hs:cur.size=cap*size) (hk:k<n) (hn:n≤cap) (hnews:news=(cur.toList.take (n*size)).drop ((k+1)*size)) (hz:zc.length=size) :
    news.length=(n-(k+1))*size∧k*size+news.length≤cur.size∧(n-1)*size+zc.length≤(setM cur (k*size) news).size∧(setM (setM cur (k*size) news) ((n-1)*size) zc).toList.take ((n-1)*size)=cur.toList.take (k*size)++news∧∀ u∈(setM (setM cur (k*size) news) ((n-1)*size) zc).toList,u∈cur.toList∨u∈zc:=by
 have a1:n*size≤cap*size:=Nat.mul_le_mul_right _ hn;have a2:(k+1)*size≤n*size:=Nat.mul_le_mul_right _ (by omega);have a3:(n-(k+1))*size=n*size-(k+1)*size:=Nat.mul_sub_right_distrib _ _ _;have a4:(k+1)*size=k*size+size:=by rw [Nat.add_mul,Nat.one_mul]
 have a5:(n-1)*size+size=n*size:=by rw [←Nat.succ_mul];congr 1;omega
 have l1:news.length=(n-(k+1))*size:=by
  rw [hnews,zS_,zF_,Array.length_toList,hs,Nat.min_eq_left a1,a3]
 have l2:k*size+news.length≤cur.size:=by rw [l1,hs];omega
 have l3:(n-1)*size+zc.length≤(setM cur (k*size) news).size:=by rw [setM_size,hs,hz];omega
 have hm:k*size≤cur.toList.length:=by rw [Array.length_toList];omega
 have hb1:=setM_list news cur (k*size) l2;have l4:(cur.toList.take (k*size)++news).length=(n-1)*size:=by
  rw [zE_,zF_,Nat.min_eq_left hm,l1];omega
 refine ⟨l1,l2,l3,?_,fun u hu=>?_⟩
 ·rw [setM_list _ _ _ l3,hb1,List.append_assoc _ zc,List.take_append_of_le_length (by rw [zF_,zE_,l4];omega),List.take_take,Nat.min_self,←l4]
  exact List.take_left
 ·rw [setM_list _ _ _ l3,List.mem_append,List.mem_append] at hu
  have key:∀ u∈(setM cur (k*size) news).toList,u∈cur.toList:=fun u hu=>by
   rw [hb1,List.mem_append,List.mem_append] at hu;rcases hu with (hu | hu) | hu
   ·exact List.mem_of_mem_take hu
   ·rw [hnews] at hu
    exact List.mem_of_mem_take (List.mem_of_mem_drop hu)
   ·exact List.mem_of_mem_drop hu
  rcases hu with (hu | hu) | hu
  ·exact .inl (key u (List.mem_of_mem_take hu))
  ·exact .inr hu
  ·exact .inl (key u (List.mem_of_mem_drop hu))
theorem info_deli:(Tryz.prog.info? 3).map (fun i=>(i.zero,i.size))=some (some (.int .i64 0),1):=by kernel_rfl
theorem zero_deli (w:World):(zeroValue 3).run Tryz.prog w=.ok (.int .i64 0) w:=by kernel_rfl
theorem deli_any (g n cap k:Nat) (cur:Array Value) (w:World) (hb:Blk w g 3 cur) (hcs:cur.size=cap*1) (hn:n≤cap) (hk:k<n) (hcm:cap≤maxLen) (h1:∀ u∈cur.toList.take (n*1),u.oneCell'=true) :
    Calls Tryz.prog 75 #[.slice (some ⟨g,0,none⟩) n cap,.int .i64 k,.int .i64 ((k:Int)+1)] w (DelP g 3 1 n cap k cur [.int .i64 0] w):=by
 obtain ⟨i,hi,hinf⟩:=Option.map_eq_some_iff.1 info_deli;injection hinf with hi1 hi2;obtain ⟨news,hnews⟩:∃ news,news=(cur.toList.take (n*1)).drop ((k+1)*1):=⟨_,rfl⟩;obtain ⟨d1,d2,d3,d4,d5⟩:=del_cells (zc:=[.int .i64 0]) hcs hk hn hnews rfl;have hget:∀ t u,news[t]?=some u→cur[(k+1)*1+t]?=some u:=fun t u hu=>by
  rw [hnews,List.getElem?_drop,List.getElem?_take] at hu
  split at hu
  ·rw [←Array.getElem?_toList];exact hu
  ·cases hu
 obtain ⟨A,hA,hsrc⟩:∃ A:Addr,(if cap=k+1 then (some ⟨g,0,none⟩:Option Addr) else some ⟨g,(k+1)*1,none⟩)=some A∧Hid (∀ t u,news[t]?=some u→w.drew.cell? (A.add t)=some u):=by
  by_cases h:cap=k+1
  ·refine ⟨⟨g,0,none⟩,by rw [if_pos h],fun t u hu=>?_⟩
   have h0 : news.length = 0 := by rw [d1]; have : n - (k + 1) = 0 := by omega
                                   rw [this,Nat.zero_mul]
   rw [List.length_eq_zero_iff.1 h0] at hu;simp at hu
  ·refine ⟨⟨g,(k+1)*1,none⟩,by rw [if_neg h],fun t u hu=>?_⟩
   rw [Addr.add_lit];show w.cell? ⟨g,(k+1)*1+t,none⟩=some u;rw [hb.cell];exact hget t u hu
 have hA2:=hA
 try simp only [Nat.mul_one] at hA2
 have s1:Hid (news.length=(n-(k+1))*1):=d1;have s2:Hid (∀ u∈news,u.oneCell'=true):=fun u hu=>by
  rw [hnews] at hu;exact h1 u (List.mem_of_mem_drop hu)
 have s3:Hid (∀ t,t<news.length→(w.drew.cell? ⟨g,0+k*1+t,none⟩).isSome=true∧w.drew.frozen? ⟨g,0+k*1+t,none⟩=false):=fun t ht=>by
  rw [Nat.zero_add];refine ⟨?_,hb.frozen _⟩;show (w.cell? ⟨g,k*1+t,none⟩).isSome=true;rw [hb.cell,Array.getElem?_eq_getElem (by omega)];rfl
 obtain ⟨W1,hW1⟩:∃ W1,W1=w.drew.setCells g (0+k*1) news:=⟨_,rfl⟩;have HW1:=lH hW1;have HB1:Hid (Blk W1 g 3 (setM cur (k*1) news)):=lH (by
  rw [hW1,Nat.zero_add];exact blk_setCells news _ _ _ hb)
 have HZC:Hid (∀ ty,(Builtin.clear_ #[30] ty #[.slice (some ⟨g,(n-1)*1,none⟩) 1 (cap-(n-1))]).run Tryz.prog W1=.ok (.tuple #[]) (W1.setCells g ((n-1)*1) [.int .i64 0])):=lH fun ty=>
  run_clear_one W1 30 3 ty (.int .i64 0) Tryz.underlying30 zero_deli (by intro u hu;simp [Value.cells] at hu;rcases hu with rfl | rfl | rfl | rfl<;>rfl) g ((n-1)*1) _ (fun j hj=>by
   rw [HB1.o.cell,Array.getElem?_eq_getElem (by have:j<1:=hj;have e:([.int .i64 0]:List Value).length=1:=rfl;omega)];rfl) (fun j hj=>HB1.o.frozen _)
 have HD4:=lH d4;have HD5:=lH d5;have HS:=lH hcs;have HB:=lH hb;have HNW:=lH hnews;have hkc:k≤cap:=by omega
 have hk1:k+1≤cap:=by omega
 clear hW1 hget hnews d1 d2 d3 d4 d5 hb h1 hcs;have h63:(cap:Int)≤9223372036854775807:=by unfold maxLen at hcm;omega
 have hnI:(n:Int)≤9223372036854775807:=by omega
 have hk0:=lZ k
 have hk10:(0:Int)≤(k:Int)+1:=by omega
 have hkkI:(k:Int)≤(k:Int)+1:=by omega
 have hknI:(k:Int)+1≤(n:Int):=by omega
 have hncI:(n:Int)≤(cap:Int):=by omega
 have hkcI:(k:Int)≤(cap:Int):=by omega
 have hkc1I:(k:Int)+1≤(cap:Int):=by omega
 have hkn:=zL_ k;have hkn1:((k:Int)+1).toNat=k+1:=by omega
 have hne:((k:Int) == (k:Int)+1)=false:=by simp;omega
 have hnn:=zL_ n;go_enter Tryz.func75,Tryz.ntmps75
 go_wp2_with fail
 go_region_law (refine step_append_room rfl (.tmp 22) (.tmp 25) 30 rfl 3 i 1 Tryz.underlying30 hi hi2 g 0 k cap (by simp [Act.eval,Act.put]) A (n-(k+1)) (cap-(k+1)) news (by simp [Act.eval,Act.put,hA2]) s1.out hsrc.out s2.out (by omega) s3.out ?_;rw [←HW1.o])
 go_wp2_with fail
 have e1:k+(n-(k+1))=n-1:=by omega
 have e2:n-(n-1)=1:=by omega
 have hz:=HZC.o 0
 try simp only [Nat.mul_one] at hz
 simp only [e1,e2];rw [hz]
 go_wp2_with fail
 go_ret;refine ⟨rfl,setM (setM cur (k*1) news) ((n-1)*1) [.int .i64 0],?_,by rw [setM_size,setM_size],by rw [←HNW.o];exact HD4.o,HD5.o,fun b hb hne=>?_,?_⟩
 ·have h:=blk_setCells [.int .i64 0] ((n-1)*1) _ _ HB1.o
  try simp only [Nat.mul_one] at h ⊢
  exact h
 ·rw [sc_other hne,HW1.o,sc_other hne]
  rfl
 ·refine Below.trans ?_ (sc_below _ _ _)
  rw [HW1.o];exact Below.trans (below_drew bR) (sc_below _ _ _)
theorem info_delm:(Tryz.prog.info? 57).map (fun i=>(i.zero,i.size))=some (some (.agg #[.int .i64 0,.string ⟨#[]⟩,.string ⟨#[]⟩,.int .i64 0]),4):=by kernel_rfl
theorem zero_delm (w:World):(zeroValue 57).run Tryz.prog w=.ok (.agg #[.int .i64 0,.string ⟨#[]⟩,.string ⟨#[]⟩,.int .i64 0]) w:=by kernel_rfl
theorem delm_any (g n cap k:Nat) (cur:Array Value) (w:World) (hb:Blk w g 57 cur) (hcs:cur.size=cap*4) (hn:n≤cap) (hk:k<n) (hcm:cap≤maxLen) (h1:∀ u∈cur.toList.take (n*4),u.oneCell'=true) :
    Calls Tryz.prog 76 #[.slice (some ⟨g,0,none⟩) n cap,.int .i64 k,.int .i64 ((k:Int)+1)] w (DelP g 57 4 n cap k cur [.int .i64 0,.string ⟨#[]⟩,.string ⟨#[]⟩,.int .i64 0] w):=by
 obtain ⟨i,hi,hinf⟩:=Option.map_eq_some_iff.1 info_delm;injection hinf with hi1 hi2;obtain ⟨news,hnews⟩:∃ news,news=(cur.toList.take (n*4)).drop ((k+1)*4):=⟨_,rfl⟩;obtain ⟨d1,d2,d3,d4,d5⟩:=del_cells (zc:=[.int .i64 0,.string ⟨#[]⟩,.string ⟨#[]⟩,.int .i64 0]) hcs hk hn hnews rfl;have hget:∀ t u,news[t]?=some u→cur[(k+1)*4+t]?=some u:=fun t u hu=>by
  rw [hnews,List.getElem?_drop,List.getElem?_take] at hu
  split at hu
  ·rw [←Array.getElem?_toList];exact hu
  ·cases hu
 obtain ⟨A,hA,hsrc⟩:∃ A:Addr,(if cap=k+1 then (some ⟨g,0,none⟩:Option Addr) else some ⟨g,(k+1)*4,none⟩)=some A∧Hid (∀ t u,news[t]?=some u→w.drew.cell? (A.add t)=some u):=by
  by_cases h:cap=k+1
  ·refine ⟨⟨g,0,none⟩,by rw [if_pos h],fun t u hu=>?_⟩
   have h0 : news.length = 0 := by rw [d1]; have : n - (k + 1) = 0 := by omega
                                   rw [this,Nat.zero_mul]
   rw [List.length_eq_zero_iff.1 h0] at hu;simp at hu
  ·refine ⟨⟨g,(k+1)*4,none⟩,by rw [if_neg h],fun t u hu=>?_⟩
   rw [Addr.add_lit];show w.cell? ⟨g,(k+1)*4+t,none⟩=some u;rw [hb.cell];exact hget t u hu
 have hA2:=hA
 try simp only [Nat.mul_one] at hA2
 have s1:Hid (news.length=(n-(k+1))*4):=d1;have s2:Hid (∀ u∈news,u.oneCell'=true):=fun u hu=>by
  rw [hnews] at hu;exact h1 u (List.mem_of_mem_drop hu)
 have s3:Hid (∀ t,t<news.length→(w.drew.cell? ⟨g,0+k*4+t,none⟩).isSome=true∧w.drew.frozen? ⟨g,0+k*4+t,none⟩=false):=fun t ht=>by
  rw [Nat.zero_add];refine ⟨?_,hb.frozen _⟩;show (w.cell? ⟨g,k*4+t,none⟩).isSome=true;rw [hb.cell,Array.getElem?_eq_getElem (by omega)];rfl
 obtain ⟨W1,hW1⟩:∃ W1,W1=w.drew.setCells g (0+k*4) news:=⟨_,rfl⟩;have HW1:=lH hW1;have HB1:Hid (Blk W1 g 57 (setM cur (k*4) news)):=lH (by
  rw [hW1,Nat.zero_add];exact blk_setCells news _ _ _ hb)
 have HZC:Hid (∀ ty,(Builtin.clear_ #[31] ty #[.slice (some ⟨g,(n-1)*4,none⟩) 1 (cap-(n-1))]).run Tryz.prog W1=.ok (.tuple #[]) (W1.setCells g ((n-1)*4) [.int .i64 0,.string ⟨#[]⟩,.string ⟨#[]⟩,.int .i64 0])):=lH fun ty=>
  run_clear_one W1 31 57 ty (.agg #[.int .i64 0,.string ⟨#[]⟩,.string ⟨#[]⟩,.int .i64 0]) Tryz.underlying31 zero_delm (by intro u hu;simp [Value.cells] at hu;rcases hu with rfl | rfl | rfl | rfl<;>rfl) g ((n-1)*4) _ (fun j hj=>by
   rw [HB1.o.cell,Array.getElem?_eq_getElem (by have:j<4:=hj;have e:([.int .i64 0,.string ⟨#[]⟩,.string ⟨#[]⟩,.int .i64 0]:List Value).length=4:=rfl;omega)];rfl) (fun j hj=>HB1.o.frozen _)
 have HD4:=lH d4;have HD5:=lH d5;have HS:=lH hcs;have HB:=lH hb;have HNW:=lH hnews;have hkc:k≤cap:=by omega
 have hk1:k+1≤cap:=by omega
 clear hW1 hget hnews d1 d2 d3 d4 d5 hb h1 hcs;have h63:(cap:Int)≤9223372036854775807:=by unfold maxLen at hcm;omega
 have hnI:(n:Int)≤9223372036854775807:=by omega
 have hk0:=lZ k
 have hk10:(0:Int)≤(k:Int)+1:=by omega
 have hkkI:(k:Int)≤(k:Int)+1:=by omega
 have hknI:(k:Int)+1≤(n:Int):=by omega
 have hncI:(n:Int)≤(cap:Int):=by omega
 have hkcI:(k:Int)≤(cap:Int):=by omega
 have hkc1I:(k:Int)+1≤(cap:Int):=by omega
 have hkn:=zL_ k;have hkn1:((k:Int)+1).toNat=k+1:=by omega
 have hne:((k:Int) == (k:Int)+1)=false:=by simp;omega
 have hnn:=zL_ n;go_enter Tryz.func76,Tryz.ntmps76
 go_wp2_with fail
 go_region_law (refine step_append_room rfl (.tmp 22) (.tmp 25) 31 rfl 57 i 4 Tryz.underlying31 hi hi2 g 0 k cap (by simp [Act.eval,Act.put]) A (n-(k+1)) (cap-(k+1)) news (by simp [Act.eval,Act.put,hA2]) s1.out hsrc.out s2.out (by omega) s3.out ?_;rw [←HW1.o])
 go_wp2_with fail
 have e1:k+(n-(k+1))=n-1:=by omega
 have e2:n-(n-1)=1:=by omega
 have hz:=HZC.o 0
 try simp only [Nat.mul_one] at hz
 simp only [e1,e2];rw [hz]
 go_wp2_with fail
 go_ret;refine ⟨rfl,setM (setM cur (k*4) news) ((n-1)*4) [.int .i64 0,.string ⟨#[]⟩,.string ⟨#[]⟩,.int .i64 0],?_,by rw [setM_size,setM_size],by rw [←HNW.o];exact HD4.o,HD5.o,fun b hb hne=>?_,?_⟩
 ·have h:=blk_setCells [.int .i64 0,.string ⟨#[]⟩,.string ⟨#[]⟩,.int .i64 0] ((n-1)*4) _ _ HB1.o
  try simp only [Nat.mul_one] at h ⊢
  exact h
 ·rw [sc_other hne,HW1.o,sc_other hne]
  rfl
 ·refine Below.trans ?_ (sc_below _ _ _)
  rw [HW1.o];exact Below.trans (below_drew bR) (sc_below _ _ _)
end
end Go.Proofs.YthgdchffeigkbaaGreatDoor
