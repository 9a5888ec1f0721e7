import Derived.Test.YthgdchffeigkbaaGreatDoorU30
import Derived.Test.YthgdchffeigkbaaGreatDoorU34
import Derived.Test.YthgdchffeigkbaaGreatDoorU36
set_option linter.unusedVariables false
set_option linter.unusedSimpArgs false
namespace Go.Proofs.YthgdchffeigkbaaGreatDoor
set_option maxHeartbeats 4000000
set_option maxRecDepth 100000
section
open Go.ChangeShapes Go.WideShapes Go.ChangeAt Go.RowKit
attribute [local go_sem ↓] execOp_call_val
attribute [local go_sem] callVal_func setCell_drewN alloc_drewN sEq_walk
structure Cf (w:World) (gc:Nat) (vs:List Rv) (q:List Rat):Prop where
 row:∃ cs,Blk w gc 115 cs∧cs.toList.take (q.length*4)=rvs vs
 len:vs.length=q.length
 ok:RvOk w vs q
section
variable {w w':World} {gc:Nat} {vs:List Rv} {q:List Rat}
theorem Cf.up (f:Cf w gc vs q) (hb:Below w.heap.size w w'):Cf w' gc vs q:=by
 obtain ⟨cs,h1,h2⟩:=f.row;exact ⟨⟨cs,h1.bl hb,h2⟩,f.len,f.ok.up hb⟩
theorem Cf.elem (f:Cf w gc vs q) {j:Nat} (hj:j<q.length):∃ x,vs[j]?=some x∧w.cell? ⟨gc,j*4,none⟩=some (.bool x.b1)∧w.cell? ⟨gc,j*4+1,none⟩=some (.slice x.A x.n x.c)∧w.cell? ⟨gc,j*4+2,none⟩=some (.bool x.b2)∧w.cell? ⟨gc,j*4+3,none⟩=some (.slice x.A2 x.m x.d)∧gc<w.heap.size∧(∀ o,w.frozen? ⟨gc,o,none⟩=false):=by
 obtain ⟨cs,h1,h2⟩:=f.row;obtain ⟨x,hx⟩:∃ x,vs[j]?=some x:=zX_ (by rw [f.len];exact hj);obtain ⟨c0,c1,c2,c3⟩:=h1.row_cell h2 hx;exact ⟨x,hx,c0,c1,c2,c3,h1.lt,h1.frozen⟩
theorem Cf.keep (f:Cf w gc vs q) {j:Nat} (hj:j<q.length) {x y:Rv} {p:Rat} (hy:RtV w w.heap.size p y):RtV (putV w gc j x) (putV w gc j x).heap.size p y:=by
 obtain ⟨cs,h1,h2⟩:=f.row;obtain ⟨x0,hx⟩:∃ x,vs[j]?=some x:=zX_ (by rw [f.len];exact hj);exact RtV.keep4 hy x h1 h2 hx
theorem Cf.put (f:Cf w gc vs q) {j:Nat} (hj:j<q.length) {x:Rv} {p:Rat} (hx:RtV w w.heap.size p x):Cf (putV w gc j x) gc (vs.set j x) (q.set j p):=by
 obtain ⟨cs,h1,h2⟩:=f.row;obtain ⟨cs',k1,k2⟩:=h1.row_put x h2 f.len hj;refine ⟨⟨cs',k1,by rw [zU_];exact k2⟩,by simp [f.len],fun i p' y hp hy=>?_⟩;rw [List.getElem?_set] at hp hy
 by_cases hij:j=i
 ·subst hij
  rw [if_pos rfl,if_pos hj] at hp;rw [if_pos rfl,if_pos (by rw [f.len];exact hj)] at hy;injection hp with hp;injection hy with hy;subst hp;subst hy;exact f.keep hj hx
 ·rw [if_neg hij] at hp hy
  exact f.keep hj (f.ok i p' y hp hy)
theorem Cf.rdq (f:Cf w gc vs q):RdQ w w.heap.size (some ⟨gc,0,none⟩) q.length q:=by
 obtain ⟨cs,h1,h2⟩:=f.row;refine ⟨vs,f.len,rfl,⟨by rw [rvs_len,f.len],fun hn=>⟨gc,0,rfl,h1.lt,fun i v hv=>?_⟩⟩,f.ok⟩;rw [Nat.zero_add,h1.cell];rw [←h2] at hv;rw [List.getElem?_take] at hv
 split at hv
 ·rwa [Array.getElem?_toList] at hv
 ·cases hv
end
structure SEnv (w:World) (p7 p8 p9 g:Nat) (m:ModH) (y:Value) (x:Net) (A:Option Addr) (n c:Nat) (M:List (List Rat)):Prop where
 b7:Blk w p7 90 #[.pointer (some ⟨g,0,none⟩)]
 b8:Blk w p8 92 #[.slice A n c]
 b9:Blk w p9 3 #[.int .i64 (rankR M:Int)]
 md:Blk w g 122 (m.cells y)
 rd:RdMod w w.heap.size m x
 rm:RdM w w.heap.size A n M
theorem SEnv.up {w w':World} {p7 p8 p9 g n c:Nat} {m:ModH} {y:Value} {x:Net} {A:Option Addr} {M:List (List Rat)} (h:SEnv w p7 p8 p9 g m y x A n c M) (hb:Below w.heap.size w w'):SEnv w' p7 p8 p9 g m y x A n c M:=
 ⟨h.b7.bl hb,h.b8.bl hb,h.b9.bl hb,h.md.bl hb,h.rd.up hb,h.rm.up hb⟩
end
section
open Go.ChangeShapes Go.WideShapes Go.ChangeAt Go.RowKit Go.Joins
attribute [local go_sem ↓] execOp_call_val
attribute [local go_sem] callVal_func setCell_drewN alloc_drewN sEq_walk
def OwnMi (w:World) (base:Nat) (v:Value) (ms:List Mi):Prop:=w.ownsRow base 57 4 v ms.length (ms.flatMap Mi.cells)
theorem OwnMi.keep {w w':World} {base:Nat} {v:Value} {ms:List Mi} (h:OwnMi w base v ms) (hb:Below w.heap.size w w'):OwnMi w' base v ms:=own_keep h hb
theorem OwnMi.mono {w:World} {base base':Nat} {v:Value} {ms:List Mi} (h:OwnMi w base v ms) (hb:base'≤base):OwnMi w base' v ms:=
 ⟨h.1,h.2.imp id fun ⟨g,cap,cur,h1,h2,h3⟩=>⟨g,cap,cur,h1,zI_ hb h2,h3⟩⟩
theorem OwnMi.rd {w:World} {base:Nat} {v:Value} {ms:List Mi} (h:OwnMi w base v ms):∃ A c,v=.slice A ms.length c∧RdMi w w.heap.size A ms.length ms∧ms.length≤c∧c≤maxLen:=by
 obtain ⟨A,c,hv,hr,h1,h2,_⟩:=own_rd h;exact ⟨A,c,hv,⟨rfl,hr⟩,h1,h2⟩
section
variable {o:Oper} {a:Act} {w:World} {Q:Exit→Act→World→Prop}
end
theorem RdMi.take {w:World} {B n m:Nat} {A:Option Addr} {xs:List Mi} (h:RdMi w B A n xs) (hm:m≤n):RdMi w B A m (xs.take m):=by
 obtain ⟨h1,h2,h3⟩:=h;refine ⟨by rw [zF_,h1];omega,⟨?_,fun h0=>?_⟩⟩
 ·rw [flat_len Mi.len,zF_,h1,Nat.min_eq_left hm]
 ·obtain ⟨b,off,e,hlt,hc⟩:=h3 (by omega)
  refine ⟨b,off,e,hlt,fun j u hu=>hc j u ?_⟩;have e2:xs.flatMap Mi.cells=(xs.take m).flatMap Mi.cells++(xs.drop m).flatMap Mi.cells:=by rw [←List.flatMap_append,List.take_append_drop]
  rw [e2,zR_ (zB_.1 hu).1];exact hu
theorem RdMi.drop {w:World} {B n i:Nat} {b off:Nat} {xs:List Mi} (h:RdMi w B (some ⟨b,off,none⟩) n xs) (hi:i≤n):RdMi w B (some ⟨b,off+i*4,none⟩) (n-i) (xs.drop i):=by
 obtain ⟨h1,h2,h3⟩:=h;refine ⟨by rw [zS_,h1],⟨?_,fun h0=>?_⟩⟩
 ·rw [flat_len Mi.len,zS_,h1]
 ·obtain ⟨b',off',e,hlt,hc⟩:=h3 (by omega)
  injection e with e;injection e with e1 e2;subst e1;subst e2;refine ⟨b,off+i*4,rfl,hlt,fun j u hu=>?_⟩;have e2:xs.flatMap Mi.cells=(xs.take i).flatMap Mi.cells++(xs.drop i).flatMap Mi.cells:=by rw [←List.flatMap_append,List.take_append_drop]
  have hl:((xs.take i).flatMap Mi.cells).length=i*4:=by rw [flat_len Mi.len,zF_,h1,Nat.min_eq_left hi]
  have:=hc (i*4+j) u (by rw [e2,zN_ (by omega),hl,Nat.add_sub_cancel_left];exact hu);rwa [←Nat.add_assoc] at this
theorem RdMi.tail {w:World} {B n c:Nat} {b off:Nat} {xs:List Mi} (h:RdMi w B (some ⟨b,off,none⟩) n xs) (hc:n≤c) {i:Nat} (hi:i≤n):RdMi w B (if c=i then some ⟨b,off,none⟩ else some ⟨b,off+i*4,none⟩) (n-i) (xs.drop i):=by
 have h2:=h.drop hi
 by_cases hci:c=i
 ·refine ⟨h2.1,h2.2.1,fun h0=>by omega⟩
 ·rw [if_neg hci];exact h2
end
section
open Go.ChangeShapes Go.WideShapes Go.ChangeAt Go.RowKit
attribute [local go_sem ↓] execOp_call_val
attribute [local go_sem] callVal_func setCell_drewN alloc_drewN sEq_walk
structure ArS (S:Nat→Nat→Bool) (nb b:Nat) (L:List Int):Prop where
 len:L.length=nb
 at_:∀ k,k<b→L.getD k 0=((arR S b).1.getD k 0:Nat)
theorem ArS.start (S:Nat→Nat→Bool) (nb:Nat):ArS S nb 0 (List.replicate nb 0):=⟨zO_,fun k h=>by omega⟩
theorem ArS.old {S:Nat→Nat→Bool} {nb b a:Nat} {L:List Int} (h:ArS S nb b L) (hb:b<nb) (hf:(List.range b).find? (fun a=>S a b)=some a):ArS S nb (b+1) (L.set b (L.getD a 0)):=by
 have ha:a<b:=by simpa using List.mem_of_find?_eq_some hf
 refine ⟨by rw [zU_];exact h.len,fun k hk=>?_⟩;have e:(arR S (b+1)).1=(arR S b).1++[(arR S b).1.getD a 0]:=by rw [arR_succ,hf]
 have hl:=arR_len S b;rw [e,zD_,zD_ (l:=(arR S b).1++_),List.getElem?_set]
 by_cases hkb:k=b
 ·subst hkb
  rw [if_pos rfl,if_pos (by rw [h.len];exact hb),zN_ (by omega),hl,Nat.sub_self,h.at_ a ha];rfl
 ·rw [if_neg (fun e=>hkb e.symm),zR_ (by omega),←zD_,←zD_]
  exact h.at_ k (by omega)
theorem ArS.new {S:Nat→Nat→Bool} {nb b:Nat} {L:List Int} (h:ArS S nb b L) (hb:b<nb) (hf:(List.range b).find? (fun a=>S a b)=none):ArS S nb (b+1) (L.set b ((arR S b).2:Nat))∧(arR S (b+1)).2=(arR S b).2+1:=by
 have e:arR S (b+1)=((arR S b).1++[(arR S b).2],(arR S b).2+1):=by rw [arR_succ,hf]
 refine ⟨⟨by rw [zU_];exact h.len,fun k hk=>?_⟩,by rw [e]⟩;have hl:=arR_len S b;rw [e,zD_,zD_ (l:=(arR S b).1++_),List.getElem?_set]
 by_cases hkb:k=b
 ·subst hkb
  rw [if_pos rfl,if_pos (by rw [h.len];exact hb),zN_ (by omega),hl,Nat.sub_self];rfl
 ·rw [if_neg (fun e=>hkb e.symm),zR_ (by omega),←zD_,←zD_]
  exact h.at_ k (by omega)
def FreeP (x:Net) (w:World) (e:Ending) (w':World):Prop:=Below w.heap.size w w'∧((netCk x≠0∧e=.returned (.tuple #[.slice none 0 0,.int .i64 (netCk x)]))∨(netCk x=0∧∃ A c,e=.returned (.tuple #[.slice A (freeL x).length c,.int .i64 0])∧RdI w' w'.heap.size A (freeL x).length (natJ (freeL x))))
theorem free_any (h:NetH) (x:Net) (h8:x.nodes.length≤8) (w:World) (r:RdNet w w.heap.size h x):Calls Tryz.prog 29 #[.agg h.cells] w (FreeP x w):=by
 have K0:Below w.heap.size w (w.alloc (.cells h.cells 29)):=bA;have HK:=lH K0;have P0:=lH (Blk.new w 29 h.cells);have HX:=lH (r.up K0);have HSZ:Hid (w.heap.size≤(w.alloc (.cells h.cells 29)).heap.size):=lH K0.size;have HOK:Hid (netCk x=0→NetOk x):=lH netCk_ok;have HFP:Hid (∀ e w',FreeP x w e w'↔(Below w.heap.size w w'∧((netCk x≠0∧e=.returned (.tuple #[.slice none 0 0,.int .i64 (netCk x)]))∨(netCk x=0∧∃ A c,e=.returned (.tuple #[.slice A (freeL x).length c,.int .i64 0])∧RdI w' w'.heap.size A (freeL x).length (natJ (freeL x)))))):=lH fun e w'=>Iff.rfl;have HCK:=lH (check_any h x (w.alloc (.cells h.cells 29)) HX.o);generalize netCk x=ck at *;clear K0 r;obtain ⟨D0,r0,s0,D1,r1,s1,D2,r2,s2,D3,r3,s3,D4,r4,s4,D5,r5,s5⟩:=h;obtain ⟨y0,y1,y2,y3,y4,y5,nf,nlt⟩:=net_box P0.o;dsimp only at y0 y1 y2 y3 y4 y5;go_enter Tryz.func29,Tryz.ntmps29
 go_wp2_with fail
 generalize w.alloc (.cells (NetH.cells ⟨D0,r0,s0,D1,r1,s1,D2,r2,s2,D3,r3,s3,D4,r4,s4,D5,r5,s5⟩) 29)=W at *;refine HCK.o.mono ?_;rintro e w1 ⟨rfl,hb1⟩;have HB1:=lH hb1;clear hb1 y0 y1 y2 y3 y4 y5 nf nlt HCK
 by_cases h0:ck=0
 ·subst h0
  have P1:=P0.o.bl HB1.o;obtain ⟨y0,y1,y2,y3,y4,y5,nf,nlt⟩:=net_box P1;dsimp only at y0 y1 y2 y3 y4 y5;clear P1
  go_wp2_with fail
  refine (flowOf_any _ x (HOK.o (by simp)) h8 w1 (HX.o.up HB1.o)).mono ?_;rintro e w2 ⟨hb2,g,m,A7,n7,c7,rfl,hg,hblk,hrd,-⟩;have HB2:=lH (HK.o.trans ((HB1.o.tm hb2).mono HSZ.o));have HN6:Hid ((freeL x).length=m.n6):=lH (by rw [←natJ_len];exact hrd.r6.len);have H6:=lH hrd.r6;have g6:w2.cell? ⟨g,6,none⟩=some (.slice m.A6 m.n6 m.c6):=hblk.cell 6;have gl:=hblk.lt;clear hb2 hg hblk hrd y0 y1 y2 y3 y4 y5 nf nlt
  go_wp2_with fail
  refine bodyPost_ret (v:=.tuple #[.slice m.A6 m.n6 m.c6,.int .i64 0]) (by simp [results,Tryz.results29,go_sem]) rfl ?_;rw [HFP.o];exact ⟨HB2.o,.inr ⟨by simp,m.A6,m.c6,by rw [HN6.o],by rw [HN6.o];exact H6.o⟩⟩
 ·have hb:(ck != 0)=true:=by simp [h0]
  go_wp2_with fail
  refine bodyPost_ret (v:=.tuple #[.slice none 0 0,.int .i64 ck]) (by simp [results,Tryz.results29,go_sem]) rfl ?_;rw [HFP.o];exact ⟨HK.o.trans (HB1.o.mono HSZ.o),.inl ⟨h0,rfl⟩⟩
theorem OwnS.mono {S:Value→Prop} {w:World} {base base' e size n:Nat} {v:Value} {xs:List Value} (h:OwnS S w base e size v n xs) (hb:base'≤base):OwnS S w base' e size v n xs:=
 ⟨h.1,h.2.imp id fun ⟨g,cap,cur,h1,h2,h3⟩=>⟨g,cap,cur,h1,zI_ hb h2,h3⟩⟩
theorem RdQ.keepsI {w w':World} {A:Option Addr} {n base e:Nat} {qs:List Rat} (h:RdQ w w.heap.size A n qs) (k:Keeps IsI base e w w'):RdQ w' w'.heap.size A n qs:=by
 obtain ⟨vs,h1,h2,h3,h4⟩:=h;refine ⟨vs,h1,h2,⟨h3.1,fun hn=>?_⟩,fun i q v hq hv=>(h4 i q v hq hv).keepsI k⟩;obtain ⟨b,off,e,hlt,hc⟩:=h3.2 hn;refine ⟨b,off,e,zJ_ hlt k.size,fun j u hu=>k.cell _ _ (hc j u hu) ?_⟩;rintro ⟨y,hy⟩;exact (rvs_noI vs u (zC_ hu)).2 _ _ hy
theorem RdM.keepsI {w w':World} {A:Option Addr} {n base e:Nat} {M:List (List Rat)} (h:RdM w w.heap.size A n M) (k:Keeps IsI base e w w'):RdM w' w'.heap.size A n M:=by
 obtain ⟨hs,h1,h2,h3,h4⟩:=h;refine ⟨hs,h1,h2,⟨h3.1,fun hn=>?_⟩,fun i a q hh hq=>⟨(h4 i a q hh hq).1.keepsI k,(h4 i a q hh hq).2⟩⟩;obtain ⟨b,off,e,hlt,hc⟩:=h3.2 hn;refine ⟨b,off,e,zJ_ hlt k.size,fun j u hu=>k.cell _ _ (hc j u hu) ?_⟩;rintro ⟨y,hy⟩;exact (hd_noI hs u (zC_ hu)).2 _ _ hy
theorem flat_set {α:Type} {el:α→List Value} {sz:Nat} (hlen:∀ a,(el a).length=sz):∀ (xs:List α) (i:Nat) (x y:α) (j:Nat) (u:Value),xs[i]?=some x→j<sz→el y=(el x).set j u→(xs.set i y).flatMap el=(xs.flatMap el).set (i*sz+j) u
 | [],i,x,y,j,u,h,_,_=>by simp at h
 | a::r,0,x,y,j,u,h,hj,he=>by
  simp at h;subst h;simp only [List.set_cons_zero,List.flatMap_cons,he,Nat.zero_mul,Nat.zero_add];rw [List.set_append_left _ _ (by rw [hlen];exact hj)]
 | a::r,i+1,x,y,j,u,h,hj,he=>by
  simp only [List.set_cons_succ,List.flatMap_cons];rw [flat_set hlen r i x y j u (by simpa using h) hj he,List.set_append_right _ _ (by rw [hlen,Nat.succ_mul];omega),hlen];congr 2
  rw [Nat.succ_mul];omega
section
variable {w:World} {base n c i:Nat} {A:Option Addr} {ms:List Mi} {m:Mi}
theorem OwnMi.at_ (h:OwnMi w base (.slice A n c) ms) (hm:ms[i]?=some m):∃ g,A=some ⟨g,0,none⟩∧base≤g∧g<w.heap.size∧w.cell? ⟨g,i*4,none⟩=some (.int .i64 m.kind)∧w.cell? ⟨g,i*4+1,none⟩=some (.string m.name)∧w.cell? ⟨g,i*4+2,none⟩=some (.string m.txt)∧w.cell? ⟨g,i*4+3,none⟩=some (.int .i64 m.wt)∧(∀ o,w.frozen? ⟨g,o,none⟩=false)∧
    ∀ (j:Nat) (u:Value) (m':Mi),j<4→Mi.cells m'=(Mi.cells m).set j u→OwnMi (w.setCell ⟨g,i*4+j,none⟩ u) base (.slice A n c) (ms.set i m'):=by
 have hi:=(zB_.1 hm).1;unfold OwnMi at h;rcases h.2 with ⟨h1,h2⟩ | ⟨g,cap,cur,h1,h2,h3,h4,h5,h6,h7⟩
 ·omega
 ·have hb:Blk w g 57 cur:=h3
  have key:∀ j y,j<4→(Mi.cells m)[j]?=some y→w.cell? ⟨g,i*4+j,none⟩=some y:=fun j y hj hy=>by
   rw [hb.cell];have:=flat_at Mi.len ms i m hm j hj;rw [hy,←h7,List.getElem?_take] at this
   split at this
   ·rwa [Array.getElem?_toList] at this
   ·cases this
  injection h1 with e1 e2 e3;refine ⟨g,e1,h2,hb.lt,key 0 _ (by decide) rfl,key 1 _ (by decide) rfl,key 2 _ (by decide) rfl,key 3 _ (by decide) rfl,fun o=>hb.frozen o,fun j u m' hj he=>?_⟩;unfold OwnMi;rw [zU_,flat_set Mi.len ms i m m' j u hm hj he];refine ⟨by rw [zU_];exact h.1,.inr ⟨g,cap,cur.setIfInBounds (i*4+j) u,by rw [e1,e2,e3],h2,hb.set_ _ u,h4,h5,by rw [Array.size_setIfInBounds];exact h6,?_⟩⟩;rw [Array.toList_setIfInBounds,take_set _ _ _ _ (by omega),h7]
end
end
end Go.Proofs.YthgdchffeigkbaaGreatDoor
