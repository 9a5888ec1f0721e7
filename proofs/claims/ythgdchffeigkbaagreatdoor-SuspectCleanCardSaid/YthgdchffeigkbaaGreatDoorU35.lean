import Derived.Test.YthgdchffeigkbaaGreatDoorU29
import Derived.Test.YthgdchffeigkbaaGreatDoorU30
import Derived.Test.YthgdchffeigkbaaGreatDoorU31
import Derived.Test.YthgdchffeigkbaaGreatDoorU33
set_option linter.unusedVariables false
set_option linter.unusedSimpArgs false
namespace Go.Proofs.YthgdchffeigkbaaGreatDoor
section
open Go.ChangeShapes Go.WideShapes Go.ChangeAt Go.RowKit
def cutAtK {α:Type} (l:List α) (k:Nat):List α:=l.take k++l.drop (k+1)
theorem cutAtK_get {α:Type} {l:List α} {k i:Nat}:(cutAtK l k)[i]?=if i<k then l[i]? else if k<l.length then l[i+1]? else none:=by
 unfold cutAtK
 by_cases h:i<k
 ·rw [if_pos h]
  by_cases hi:i<l.length
  ·rw [zR_ (by rw [zF_];omega),List.getElem?_take_of_lt h]
  ·rw [List.getElem?_eq_none (by rw [zE_,zF_,zS_];omega),List.getElem?_eq_none (by omega)]
 ·rw [if_neg h]
  split
  ·rename_i hk
   rw [zN_ (by rw [zF_];omega),zF_,List.getElem?_drop];congr 1
   omega
  ·rename_i hk
   exact List.getElem?_eq_none (by rw [zE_,zF_,zS_];omega)
theorem misGo_all {x:Net}:∀ {ms:List Mi},(∀ m∈ms,miCk x m=0)→misGo x ms=0
 | [],_=>rfl
 | a::r,h=>by
  unfold misGo;rw [if_pos (h a List.mem_cons_self)];exact misGo_all fun m hm=>h m (List.mem_cons_of_mem _ hm)
theorem mtCk_parts {x:Net} {ms:List Mi} (h:mtCk x ms=0):netCk x=0∧ms.length≤64∧∀ m∈ms,miCk x m=0:=by
 unfold mtCk at h
 split at h
 ·exact absurd h (by assumption)
 ·rename_i hn
  split at h
  ·omega
  ·exact ⟨by omega,by omega,misGo_ok h⟩
theorem mtCk_all {x:Net} {ms:List Mi} (hn:netCk x=0) (hl:ms.length≤64) (h:∀ m∈ms,miCk x m=0):mtCk x ms=0:=by
 unfold mtCk;rw [if_neg (by omega),if_neg (by omega)];exact misGo_all h
theorem mtCk_sub {x:Net} {ms ms':List Mi} (h:mtCk x ms=0) (hs:∀ m∈ms',m∈ms) (hl:ms'.length≤64):mtCk x ms'=0:=by
 obtain ⟨h1,_,h3⟩:=mtCk_parts h;exact mtCk_all h1 hl fun m hm=>h3 m (hs m hm)
theorem vf_zrs (n i:Nat):vf (zrs n) i=0:=by
 unfold vf zrs;rw [zD_,List.getElem?_replicate]
 split<;>rfl
theorem vf_set {l:List Rat} {i:Nat} {y:Rat} (h:i<l.length) (j:Nat):vf (l.set i y) j=if j=i then y else vf l j:=by
 unfold vf;rw [zD_,zD_,List.getElem?_set]
 by_cases hj:i=j
 ·subst hj;simp [h]
 ·rw [if_neg hj,if_neg (fun e=>hj e.symm)]
theorem rowR_dot {x:Net} (q:List Rat) (X:Fn):dotn (freeL x).length (vf (rowR x q)) X=sumTo (busN x) fun k=>vf q k*ext (freeB (islN x)) X k:=by
 unfold rowR freeL;exact pick_dot (freeB (islN x)) (vf q) X (busN x)
theorem hd_noI (hs:List Hd):∀ u∈hs.map Hd.val,u.oneCell'=true∧NoI u:=fun u hu=>by
 obtain ⟨h,_,rfl⟩:=List.mem_map.1 hu;exact ⟨rfl,fun k x e=>by cases e⟩
theorem wp_appRows {o:Oper} {a:Act} {w:World} {K:Act→World→Prop} {Q:Exit→Act→World→Prop} (s x:Operand) (t:TypeId)
    (ho:o.op=.call { callee:=.builtin .append,args:=#[s,x],argTypes:=#[t,t] }) (base:Nat) (ht:Tryz.prog.underlying t=some (.slice 93))
    (v:Value) (hs:List Hd) (hsv:a.eval s=v) (hown:OwnS NoI w base 93 1 v hs.length (hs.map Hd.val))
    (A:Option Addr) (m c:Nat) (h2:List Hd) (hm:h2.length=m) (hx:a.eval x=.slice A m c) (hr:Rd w w.heap.size 1 A m (h2.map Hd.val)) (h63:hs.length+m≤1000000000) (hbase:base≤w.heap.size) (N:Nat) (hN:(hs++h2).length=N)
    (h:∀ A' c' w',OwnS NoI w' base 93 1 (.slice A' N c') (hs++h2).length ((hs++h2).map Hd.val)→Below base w w'→Keeps NoI base 93 w w'→K (a.put o.dst (.slice A' N c')) w'):o.wp Tryz.prog a w K Q:=by
 obtain ⟨i0,hi0,hz0,hz1,hz2⟩:=info_parts info_rw;subst hm;refine wp_appR (S:=NoI) s x t ho base 93 i0 _ 1 24 ht hi0 hz0 hz1 hz2 rfl (by omega) (fun u hu=>?_) v hs.length (hs.map Hd.val) hsv hown A h2.length c (h2.map Hd.val) hx hr (hd_noI h2) (by simp only [maxLen];omega) (by omega) hbase fun v' w' k1 k2 _ _=>?_
 ·have hu':u∈[Value.slice none 0 0]:=hu
  rw [List.mem_singleton.1 hu'];exact fun k x h=>by cases h
 ·rw [←List.map_append,←zE_] at k1
  obtain ⟨A',c',e,_⟩:=k1.shape;subst e;subst hN;exact h A' c' w' k1 k2.low k2
theorem Rd.heads {w:World} {B:Nat} {b off n:Nat} {hs:List Hd} (h:Rd w B 1 (some ⟨b,off,none⟩) n (hs.map Hd.val)) (i m:Nat) (him:i+m≤n):Rd w B 1 (some ⟨b,off+i,none⟩) m (((hs.drop i).take m).map Hd.val):=by
 have hl:=h.1;rw [zG_] at hl;refine ⟨by rw [zG_,zF_,zS_];omega,fun h0=>?_⟩;obtain ⟨b',off',e,hlt,hc⟩:=h.2 (by omega);injection e with e;injection e with e1 e2;subst e1;subst e2;refine ⟨b,off+i,rfl,hlt,fun j u hu=>?_⟩;rw [List.map_take,List.map_drop] at hu;have hj:=(zB_.1 hu).1;rw [zF_] at hj;rw [List.getElem?_take_of_lt (by omega),List.getElem?_drop] at hu;have:=hc (i+j) u hu;rwa [←Nat.add_assoc] at this
theorem Rd.tail {w:World} {B:Nat} {b off n c:Nat} {hs:List Hd} (h:Rd w B 1 (some ⟨b,off,none⟩) n (hs.map Hd.val)) (hc:n≤c) {i:Nat} (hi:i≤n):Rd w B 1 (if c=i then some ⟨b,off,none⟩ else some ⟨b,off+i,none⟩) (n-i) ((hs.drop i).map Hd.val):=by
 have hl:=h.1;rw [zG_] at hl;have h2:=h.heads i (n-i) (by omega);rw [zH_ (by rw [zS_];omega)] at h2
 by_cases hci:c=i
 ·refine ⟨h2.1,fun h0=>by omega⟩
 ·rw [if_neg hci];exact h2
def Hds (w:World) (hs:List Hd) (M:List (List Rat)):Prop:=hs.length=M.length∧∀ (i:Nat) (h:Hd) (q:List Rat),hs[i]?=some h→M[i]?=some q→RdQ w w.heap.size h.A h.n q∧h.n≤h.c∧h.c≤maxLen
theorem Hds.up {w w':World} {hs:List Hd} {M:List (List Rat)} (h:Hds w hs M) (hb:Below w.heap.size w w'):Hds w' hs M:=⟨h.1,fun i a q hh hq=>⟨((h.2 i a q hh hq).1.below hb lR).more hb.size,(h.2 i a q hh hq).2⟩⟩
theorem Hds.cut {w:World} {hs:List Hd} {M:List (List Rat)} (h:Hds w hs M) (k:Nat):Hds w (cutAtK hs k) (cutAtK M k):=by
 refine ⟨by unfold cutAtK;simp [h.1],fun i a q hh hq=>?_⟩;rw [cutAtK_get] at hh hq;rw [h.1] at hh
 split at hh
 ·rw [if_pos ‹_›] at hq;exact h.2 _ _ _ hh hq
 ·rw [if_neg ‹_›] at hq
  split at hh
  ·rw [if_pos ‹_›] at hq;exact h.2 _ _ _ hh hq
  ·cases hh
theorem RdM.hds {w:World} {A:Option Addr} {n:Nat} {M:List (List Rat)} (h:RdM w w.heap.size A n M):∃ hs:List Hd,hs.length=n∧Rd w w.heap.size 1 A n (hs.map Hd.val)∧Hds w hs M:=by
 obtain ⟨hs,h1,h2,h3,h4⟩:=h;exact ⟨hs,h1,h3,h1.trans h2.symm,h4⟩
end
section
open Go.ChangeShapes Go.WideShapes Go.ChangeAt Go.RowKit
attribute [local go_sem ↓] execOp_call_val
attribute [local go_sem] callVal_func setCell_drewN alloc_drewN sEq_walk
structure Cf (w:World) (gc:Nat) (vs:List Rv) (q:List Rat):Prop where
 row:∃ cs,Blk w gc 115 cs∧cs.toList.take (q.length*4)=rvs vs
 len:vs.length=q.length
 ok:RvOk w vs q
section
variable {w w':World} {gc:Nat} {vs:List Rv} {q:List Rat}
theorem Cf.up (f:Cf w gc vs q) (hb:Below w.heap.size w w'):Cf w' gc vs q:=by
 obtain ⟨cs,h1,h2⟩:=f.row;exact ⟨⟨cs,h1.bl hb,h2⟩,f.len,f.ok.up hb⟩
theorem Cf.elem (f:Cf w gc vs q) {j:Nat} (hj:j<q.length):∃ x,vs[j]?=some x∧w.cell? ⟨gc,j*4,none⟩=some (.bool x.b1)∧w.cell? ⟨gc,j*4+1,none⟩=some (.slice x.A x.n x.c)∧w.cell? ⟨gc,j*4+2,none⟩=some (.bool x.b2)∧w.cell? ⟨gc,j*4+3,none⟩=some (.slice x.A2 x.m x.d)∧gc<w.heap.size∧(∀ o,w.frozen? ⟨gc,o,none⟩=false):=by
 obtain ⟨cs,h1,h2⟩:=f.row;obtain ⟨x,hx⟩:∃ x,vs[j]?=some x:=zX_ (by rw [f.len];exact hj);obtain ⟨c0,c1,c2,c3⟩:=h1.row_cell h2 hx;exact ⟨x,hx,c0,c1,c2,c3,h1.lt,h1.frozen⟩
theorem Cf.keep (f:Cf w gc vs q) {j:Nat} (hj:j<q.length) {x y:Rv} {p:Rat} (hy:RtV w w.heap.size p y):RtV (putV w gc j x) (putV w gc j x).heap.size p y:=by
 obtain ⟨cs,h1,h2⟩:=f.row;obtain ⟨x0,hx⟩:∃ x,vs[j]?=some x:=zX_ (by rw [f.len];exact hj);exact RtV.keep4 hy x h1 h2 hx
theorem Cf.put (f:Cf w gc vs q) {j:Nat} (hj:j<q.length) {x:Rv} {p:Rat} (hx:RtV w w.heap.size p x):Cf (putV w gc j x) gc (vs.set j x) (q.set j p):=by
 obtain ⟨cs,h1,h2⟩:=f.row;obtain ⟨cs',k1,k2⟩:=h1.row_put x h2 f.len hj;refine ⟨⟨cs',k1,by rw [zU_];exact k2⟩,by simp [f.len],fun i p' y hp hy=>?_⟩;rw [List.getElem?_set] at hp hy
 by_cases hij:j=i
 ·subst hij
  rw [if_pos rfl,if_pos hj] at hp;rw [if_pos rfl,if_pos (by rw [f.len];exact hj)] at hy;injection hp with hp;injection hy with hy;subst hp;subst hy;exact f.keep hj hx
 ·rw [if_neg hij] at hp hy
  exact f.keep hj (f.ok i p' y hp hy)
theorem Cf.rdq (f:Cf w gc vs q):RdQ w w.heap.size (some ⟨gc,0,none⟩) q.length q:=by
 obtain ⟨cs,h1,h2⟩:=f.row;refine ⟨vs,f.len,rfl,⟨by rw [rvs_len,f.len],fun hn=>⟨gc,0,rfl,h1.lt,fun i v hv=>?_⟩⟩,f.ok⟩;rw [Nat.zero_add,h1.cell];rw [←h2] at hv;rw [List.getElem?_take] at hv
 split at hv
 ·rwa [Array.getElem?_toList] at hv
 ·cases hv
end
structure SEnv (w:World) (p7 p8 p9 g:Nat) (m:ModH) (y:Value) (x:Net) (A:Option Addr) (n c:Nat) (M:List (List Rat)):Prop where
 b7:Blk w p7 90 #[.pointer (some ⟨g,0,none⟩)]
 b8:Blk w p8 92 #[.slice A n c]
 b9:Blk w p9 3 #[.int .i64 (rankR M:Int)]
 md:Blk w g 122 (m.cells y)
 rd:RdMod w w.heap.size m x
 rm:RdM w w.heap.size A n M
theorem SEnv.up {w w':World} {p7 p8 p9 g n c:Nat} {m:ModH} {y:Value} {x:Net} {A:Option Addr} {M:List (List Rat)} (h:SEnv w p7 p8 p9 g m y x A n c M) (hb:Below w.heap.size w w'):SEnv w' p7 p8 p9 g m y x A n c M:=
 ⟨h.b7.bl hb,h.b8.bl hb,h.b9.bl hb,h.md.bl hb,h.rd.up hb,h.rm.up hb⟩
structure ArS (S:Nat→Nat→Bool) (nb b:Nat) (L:List Int):Prop where
 len:L.length=nb
 at_:∀ k,k<b→L.getD k 0=((arR S b).1.getD k 0:Nat)
theorem ArS.start (S:Nat→Nat→Bool) (nb:Nat):ArS S nb 0 (List.replicate nb 0):=⟨zO_,fun k h=>by omega⟩
theorem ArS.old {S:Nat→Nat→Bool} {nb b a:Nat} {L:List Int} (h:ArS S nb b L) (hb:b<nb) (hf:(List.range b).find? (fun a=>S a b)=some a):ArS S nb (b+1) (L.set b (L.getD a 0)):=by
 have ha:a<b:=by simpa using List.mem_of_find?_eq_some hf
 refine ⟨by rw [zU_];exact h.len,fun k hk=>?_⟩;have e:(arR S (b+1)).1=(arR S b).1++[(arR S b).1.getD a 0]:=by rw [arR_succ,hf]
 have hl:=arR_len S b;rw [e,zD_,zD_ (l:=(arR S b).1++_),List.getElem?_set]
 by_cases hkb:k=b
 ·subst hkb
  rw [if_pos rfl,if_pos (by rw [h.len];exact hb),zN_ (by omega),hl,Nat.sub_self,h.at_ a ha];rfl
 ·rw [if_neg (fun e=>hkb e.symm),zR_ (by omega),←zD_,←zD_]
  exact h.at_ k (by omega)
theorem ArS.new {S:Nat→Nat→Bool} {nb b:Nat} {L:List Int} (h:ArS S nb b L) (hb:b<nb) (hf:(List.range b).find? (fun a=>S a b)=none):ArS S nb (b+1) (L.set b ((arR S b).2:Nat))∧(arR S (b+1)).2=(arR S b).2+1:=by
 have e:arR S (b+1)=((arR S b).1++[(arR S b).2],(arR S b).2+1):=by rw [arR_succ,hf]
 refine ⟨⟨by rw [zU_];exact h.len,fun k hk=>?_⟩,by rw [e]⟩;have hl:=arR_len S b;rw [e,zD_,zD_ (l:=(arR S b).1++_),List.getElem?_set]
 by_cases hkb:k=b
 ·subst hkb
  rw [if_pos rfl,if_pos (by rw [h.len];exact hb),zN_ (by omega),hl,Nat.sub_self];rfl
 ·rw [if_neg (fun e=>hkb e.symm),zR_ (by omega),←zD_,←zD_]
  exact h.at_ k (by omega)
theorem ArS.fin {S:Nat→Nat→Bool} {nb:Nat} {L:List Int} (h:ArS S nb nb L):L=natJ (arR S nb).1:=by
 have hl:=arR_len S nb;apply List.ext_getElem?;intro k;unfold natJ;rw [zM_]
 by_cases hk:k<nb
 ·have:=h.at_ k hk
  rw [zD_,zD_,zA_ (by rw [h.len];exact hk),zA_ (l:=(arR S nb).1) (by omega)] at this;rw [zA_ (by rw [h.len];exact hk),zA_ (by omega)];simpa using this
 ·rw [List.getElem?_eq_none (by rw [h.len];omega),List.getElem?_eq_none (by omega)];rfl
end
section
open Go.ChangeShapes Go.WideShapes Go.ChangeAt Go.RowKit Go.Joins
attribute [local go_sem ↓] execOp_call_val
attribute [local go_sem] callVal_func setCell_drewN alloc_drewN sEq_walk
theorem info_mi:(Tryz.prog.info? 57).map (fun i=>(i.zero,i.size,i.bytes))=some (some (.agg #[.int .i64 0,.string ⟨#[]⟩,.string ⟨#[]⟩,.int .i64 0]),4,48):=by kernel_rfl
def OwnMi (w:World) (base:Nat) (v:Value) (ms:List Mi):Prop:=w.ownsRow base 57 4 v ms.length (ms.flatMap Mi.cells)
theorem OwnMi.keep {w w':World} {base:Nat} {v:Value} {ms:List Mi} (h:OwnMi w base v ms) (hb:Below w.heap.size w w'):OwnMi w' base v ms:=own_keep h hb
theorem OwnMi.mono {w:World} {base base':Nat} {v:Value} {ms:List Mi} (h:OwnMi w base v ms) (hb:base'≤base):OwnMi w base' v ms:=
 ⟨h.1,h.2.imp id fun ⟨g,cap,cur,h1,h2,h3⟩=>⟨g,cap,cur,h1,zI_ hb h2,h3⟩⟩
theorem ownMi_none (w:World) (base:Nat):OwnMi w base (.slice none 0 0) []:=own_none _ _ _ _
theorem OwnMi.rd {w:World} {base:Nat} {v:Value} {ms:List Mi} (h:OwnMi w base v ms):∃ A c,v=.slice A ms.length c∧RdMi w w.heap.size A ms.length ms∧ms.length≤c∧c≤maxLen:=by
 obtain ⟨A,c,hv,hr,h1,h2,_⟩:=own_rd h;exact ⟨A,c,hv,⟨rfl,hr⟩,h1,h2⟩
theorem OwnMi.rd2 {w:World} {base:Nat} {A:Option Addr} {n c:Nat} {ms:List Mi} (h:OwnMi w base (.slice A n c) ms):RdMi w w.heap.size A n ms∧n≤c∧c≤maxLen:=by
 obtain ⟨A',c',e,h1,h2,h3⟩:=h.rd;injection e with e1 e2 e3;subst e1;subst e2;subst e3;exact ⟨h1,h2,h3⟩
theorem mi_cells1 (ms:List Mi):∀ u∈ms.flatMap Mi.cells,u.oneCell'=true:=fun u hu=>by
 obtain ⟨m,_,hm⟩:=List.mem_flatMap.1 hu;simp [Mi.cells] at hm;rcases hm with rfl | rfl | rfl | rfl<;>rfl
theorem ownMi_lit0 {w:World}:OwnMi (w.alloc (.cells #[] 57)) w.heap.size (.slice (some ⟨w.heap.size,0,none⟩) 0 0) []:=own_nil w _ _
section
variable {o:Oper} {a:Act} {w:World} {Q:Exit→Act→World→Prop}
theorem wp_appMi {K:Act→World→Prop} (s x:Operand) (t:TypeId)
    (ho:o.op=.call { callee:=.builtin .append,args:=#[s,x],argTypes:=#[t,t] }) (base:Nat) (ht:Tryz.prog.underlying t=some (.slice 57))
    (v:Value) (xs:List Mi) (hsv:a.eval s=v) (hown:OwnMi w base v xs)
    (A:Option Addr) (m c:Nat) (ys:List Mi) (hx:a.eval x=.slice A m c) (hr:RdMi w w.heap.size A m ys) (h63:xs.length+m≤1000000000) (hbase:base≤w.heap.size) (N:Nat) (hN:(xs++ys).length=N)
    (h:∀ A' c' w',OwnMi w' base (.slice A' N c') (xs++ys)→Below base w w'→w.grownBy w' v.ownBlock→K (a.put o.dst (.slice A' N c')) w'):o.wp Tryz.prog a w K Q:=by
 obtain ⟨i0,hi0,hz0,hz1,hz2⟩:=info_parts info_mi;obtain ⟨hm,hr⟩:=hr;have hlow:∀ w',w.grownBy w' v.ownBlock→Below base w w':=fun w' hg=>bR.grown hg hbase fun k hk=>by
  rcases hown.2 with ⟨e1,_⟩ | ⟨g,cap,cur,e1,e2,_⟩
  ·rw [e1] at hk;simp [Value.ownBlock] at hk
  ·rw [e1] at hk
   simp [Value.ownBlock] at hk;omega
 have fin:∀ v' w',w'.ownsRow base 57 4 v' (xs.length+m) (xs.flatMap Mi.cells++ys.flatMap Mi.cells)→w.grownBy w' v.ownBlock→K (a.put o.dst v') w':=fun v' w' k1 k2=>by
  have k3:OwnMi w' base v' (xs++ys):=by
   unfold OwnMi;rw [List.flatMap_append,zE_,hm];exact k1
  obtain ⟨A',c',e,_⟩:=k3.rd;subst e;subst hN;exact h A' c' w' k3 (hlow _ k2) k2
 rcases Nat.eq_zero_or_pos m with rfl | h0
 ·have hys:ys=[]:=List.eq_nil_of_length_eq_zero hm
  subst hys;obtain ⟨A1,c1,hv,_,hc1,_⟩:=hown.rd;have hsrc:Src Tryz.prog i0.size t (.slice A 0 c) 0 [] w:=by
   cases A with
   | none=>exact Src.ofNil w ht c
   | some ad=>exact Src.ofSlice w ht ad 0 c [] (by simp) (fun j u hu=>by simp at hu) (fun u hu=>by cases hu)
  have hrun:=run_append_nothing (P:=Tryz.prog) w t t o.type 57 i0 ht hi0 A1 xs.length c1 hc1 (.slice A 0 c) hsrc;unfold Oper.wp execOp;simp only [ho,resolve,invoke,builtin,Sem.run_bind,Sem.run_pure,Result.andThen_ok,List.map_toArray,List.map_cons,List.map_nil,hsv,hx,hv,hrun];have:=fin v w (by have h:=hown;unfold OwnMi at h;simpa using h) (World.grownBy.refl _ _);rw [hv] at this;exact this
 ·obtain ⟨b,off,rfl,hb,hc⟩:=hr.2 h0
  exact wp_append_own w s x t ho base 57 i0 _ 4 48 ht hi0 hz0 hz1 hz2 rfl (by omega) v _ _ hsv hown ⟨b,off,none⟩ m c (ys.flatMap Mi.cells) hx (by rw [flat_len Mi.len,hm]) (fun j u hu=>by rw [Addr.add_lit];exact hc j u hu) (mi_cells1 ys) (by simp only [maxLen];omega) (by omega) hbase fun v' w' k1 k2 _=>fin v' w' k1 k2
theorem wpList_appMi {ops:Array Oper} {rest:List Oper} (hgd:o.guard=none) (s x:Operand) (t:TypeId)
    (ho:o.op=.call { callee:=.builtin .append,args:=#[s,x],argTypes:=#[t,t] }) (base:Nat) (ht:Tryz.prog.underlying t=some (.slice 57))
    (v:Value) (xs:List Mi) (hsv:a.eval s=v) (hown:OwnMi w base v xs)
    (A:Option Addr) (m c:Nat) (ys:List Mi) (hx:a.eval x=.slice A m c) (hr:RdMi w w.heap.size A m ys) (h63:xs.length+m≤1000000000) (hbase:base≤w.heap.size) (N:Nat) (hN:(xs++ys).length=N)
    (h:∀ A' c' w',OwnMi w' base (.slice A' N c') (xs++ys)→Below base w w'→w.grownBy w' v.ownBlock→wpList Tryz.prog ops Q rest (a.put o.dst (.slice A' N c')) w'):wpList Tryz.prog ops Q (o::rest) a w:=by
 refine wpList_plain hgd fun K hK=>?_;exact wp_appMi s x t ho base ht v xs hsv hown A m c ys hx hr h63 hbase N hN fun A' c' w' a1 a2 a3=>hK _ _ (h A' c' w' a1 a2 a3)
end
theorem rdMi_one {w:World} {T:TypeId} (m:Mi):RdMi (w.alloc (.cells #[.int .i64 m.kind,.string m.name,.string m.txt,.int .i64 m.wt] T)) (w.alloc (.cells #[.int .i64 m.kind,.string m.name,.string m.txt,.int .i64 m.wt] T)).heap.size (some ⟨w.heap.size,0,none⟩) 1 [m]:=by
 refine ⟨rfl,⟨rfl,fun _=>⟨w.heap.size,0,rfl,(Blk.new w T _).lt,fun j u hu=>?_⟩⟩⟩;rw [Nat.zero_add,(Blk.new w T _).cell j];simpa [Mi.cells] using hu
theorem RdMi.take {w:World} {B n m:Nat} {A:Option Addr} {xs:List Mi} (h:RdMi w B A n xs) (hm:m≤n):RdMi w B A m (xs.take m):=by
 obtain ⟨h1,h2,h3⟩:=h;refine ⟨by rw [zF_,h1];omega,⟨?_,fun h0=>?_⟩⟩
 ·rw [flat_len Mi.len,zF_,h1,Nat.min_eq_left hm]
 ·obtain ⟨b,off,e,hlt,hc⟩:=h3 (by omega)
  refine ⟨b,off,e,hlt,fun j u hu=>hc j u ?_⟩;have e2:xs.flatMap Mi.cells=(xs.take m).flatMap Mi.cells++(xs.drop m).flatMap Mi.cells:=by rw [←List.flatMap_append,List.take_append_drop]
  rw [e2,zR_ (zB_.1 hu).1];exact hu
theorem RdMi.drop {w:World} {B n i:Nat} {b off:Nat} {xs:List Mi} (h:RdMi w B (some ⟨b,off,none⟩) n xs) (hi:i≤n):RdMi w B (some ⟨b,off+i*4,none⟩) (n-i) (xs.drop i):=by
 obtain ⟨h1,h2,h3⟩:=h;refine ⟨by rw [zS_,h1],⟨?_,fun h0=>?_⟩⟩
 ·rw [flat_len Mi.len,zS_,h1]
 ·obtain ⟨b',off',e,hlt,hc⟩:=h3 (by omega)
  injection e with e;injection e with e1 e2;subst e1;subst e2;refine ⟨b,off+i*4,rfl,hlt,fun j u hu=>?_⟩;have e2:xs.flatMap Mi.cells=(xs.take i).flatMap Mi.cells++(xs.drop i).flatMap Mi.cells:=by rw [←List.flatMap_append,List.take_append_drop]
  have hl:((xs.take i).flatMap Mi.cells).length=i*4:=by rw [flat_len Mi.len,zF_,h1,Nat.min_eq_left hi]
  have:=hc (i*4+j) u (by rw [e2,zN_ (by omega),hl,Nat.add_sub_cancel_left];exact hu);rwa [←Nat.add_assoc] at this
theorem RdMi.tail {w:World} {B n c:Nat} {b off:Nat} {xs:List Mi} (h:RdMi w B (some ⟨b,off,none⟩) n xs) (hc:n≤c) {i:Nat} (hi:i≤n):RdMi w B (if c=i then some ⟨b,off,none⟩ else some ⟨b,off+i*4,none⟩) (n-i) (xs.drop i):=by
 have h2:=h.drop hi
 by_cases hci:c=i
 ·refine ⟨h2.1,h2.2.1,fun h0=>by omega⟩
 ·rw [if_neg hci];exact h2
end
section
open Go.ChangeShapes Go.WideShapes Go.ChangeAt Go.RowKit
attribute [local go_sem ↓] execOp_call_val
attribute [local go_sem] callVal_func setCell_drewN alloc_drewN sEq_walk
theorem rdVc_0 (w:World) (B:Nat):RdVc w B none 0 []:=⟨rfl,⟨rfl,fun h=>absurd h (by decide)⟩,fun v hv=>by cases hv⟩
theorem RdQ.keep5 {w:World} {p gc gd n n' T:Nat} {u:Rv} {qs:List Rat} (h:RdQ w w.heap.size (some ⟨gc,0,none⟩) n qs) (hb:Blk w p T #[.slice none 0 0,.bool false,.slice none 0 0,.bool false,.slice none 0 0]):RdQ (put5 w p gd n' u) (put5 w p gd n' u).heap.size (some ⟨gc,0,none⟩) n qs:=by
 obtain ⟨vs,h1,h2,h3,h4⟩:=h;refine ⟨vs,h1,h2,⟨h3.1,fun hn=>?_⟩,fun i q v hq hv=>(h4 i q v hq hv).keep5 hb⟩;obtain ⟨b,off,e,hlt,hc⟩:=h3.2 hn;injection e with e;injection e with e1 e2;subst e1;subst e2;obtain ⟨v0,hv0⟩:∃ v0,vs[0]?=some v0:=zX_ (by omega);have hne:gc≠p:=by
  rintro rfl;have h5:=hc 0 (.bool v0.b1) (by
   have:=rvs_at hv0 0 (by decide);rw [Nat.zero_mul,Nat.zero_add] at this;rw [this];rfl)
  rw [Nat.zero_add,hb.cell 0] at h5;cases h5
 refine ⟨gc,0,rfl,by rw [put5_size];exact hlt,fun j y hy=>?_⟩;have off:∀ (w:World) (i:Nat) (u v:Value),w.cell? ⟨gc,0+j,none⟩=some v→(w.setCell ⟨p,i,none⟩ u).cell? ⟨gc,0+j,none⟩=some v:=fun w i u v hv=>by
  rw [World.cell?_setCell_other _ _ _ _ (fun e=>hne (by injection e with e;exact e.symm))];exact hv
 exact off _ _ _ _ (off _ _ _ _ (off _ _ _ _ (off _ _ _ _ (off _ _ _ _ (hc j y hy)))))
end
end Go.Proofs.YthgdchffeigkbaaGreatDoor
