import Derived.Test.YthgdchffeigkbaaGreatDoorU13
import Derived.Test.YthgdchffeigkbaaGreatDoorU14
set_option linter.unusedVariables false
set_option linter.unusedSimpArgs false
namespace Go.Proofs.YthgdchffeigkbaaGreatDoor
set_option maxHeartbeats 8000000
set_option maxRecDepth 100000
section
open Go.ChangeShapes Go.WideShapes Go.ChangeAt Go.RowKit
attribute [local go_sem ↓] execOp_call_val
attribute [local go_sem] callVal_func setCell_drewN alloc_drewN sEq_walk NetH.cells
theorem gcheck_ok (A:Option Addr) (c n:Nat) (es:List (Nat×Nat)) (w:World) (hE:RdE w w.heap.size A es.length es) (ok:∀ x∈es,x.1<n∧x.2<n) (hn:n≤24) (he:es.length≤64) :
    Calls Tryz.prog 132 #[.int .i64 n,.slice A es.length c] w fun e w'=>e=.returned (.int .i64 0)∧Below w.heap.size w w':=by
 have HE:=lH hE;have HOK:=lH ok;have HB0:=lH (Below.refl w.heap.size w);clear hE ok;go_enter Tryz.func132,Tryz.ntmps132
 go_wp2_with fail
 go_loopw [20] (fun v wr=>∃ k:Nat,k≤es.length∧v=.int .i64 k∧Below w.heap.size w wr) (fun v _=>es.length-(intOf v).toNat)
 case atStart=>exact ⟨0,by omega,rfl,HB0.o⟩
 case round=>
  clear HB0;obtain ⟨k,hk,rfl,hb⟩:=hrel;have HB:=lH hb;clear hb
  by_cases hlt:k<es.length
  ·obtain ⟨⟨xa,xb⟩,hx⟩:∃ x,es[k]?=some x:=⟨_,zA_ hlt⟩
   have hE:=(HE.o.below HB.o lR).more HB.o.size;obtain ⟨eb,eo,heA,heb⟩:=hE.form (by omega);subst heA;obtain ⟨e0,e1⟩:=hE.at_ hx;dsimp only at e0 e1;obtain ⟨hxa,hxb⟩:=HOK.o _ (zC_ hx);dsimp only at hxa hxb;have hkI:(k:Int)<(es.length:Int):=by omega
   have hI1:(xa:Int)<(n:Int):=by omega
   have hI2:(xb:Int)<(n:Int):=by omega
   have HBA:=lH (HB.o.alloc HB.o.size (.cells #[.int .i64 xa,.int .i64 xb] 166));clear hE hx
   go_wp2_with fail
   go_roundw
   case rel=>exact ⟨k+1,by omega,by go_num,HBA.o⟩
   case measure=>simp [intOf];omega
  ·have hkk:k=es.length:=by omega
   subst hkk
   go_wp2_with fail
   go_ret;exact ⟨rfl,HB.o⟩
def CompP (n:Nat) (es:List (Nat×Nat)) (w:World) (e:Ending) (w':World):Prop:=
 Below w.heap.size w w'∧∃ g:Nat,e=.returned (.tuple #[.slice (some ⟨g,0,none⟩) n n,.int .i64 0])∧w.heap.size≤g∧Blk w' g 3 (ints (partsR n es)).toArray
theorem compP_of (n:Nat) (es:List (Nat×Nat)) (w:World) (e:Ending) (w':World) (h:Below w.heap.size w w'∧∃ g:Nat,e=.returned (.tuple #[.slice (some ⟨g,0,none⟩) n n,.int .i64 0])∧w.heap.size≤g∧Blk w' g 3 (ints (partsR n es)).toArray):CompP n es w e w':=h
theorem comp_any (A:Option Addr) (c n:Nat) (es:List (Nat×Nat)) (w:World) (hE:RdE w w.heap.size A es.length es) (ok:∀ x∈es,x.1<n∧x.2<n) (hn:n≤24) (he:es.length≤64) :
    Calls Tryz.prog 101 #[.int .i64 n,.slice A es.length c] w (CompP n es w):=by
 have HE:=lH hE;have HOK:=lH ok;have HP:=lH (compP_of n es w);clear hE ok;go_enter Tryz.func101,Tryz.ntmps101
 go_wp2_with fail
 refine (gcheck_ok A c n es w HE.o HOK.o hn he).mono ?_;rintro e w1 ⟨rfl,hb⟩;have HB:=lH hb;clear hb
 go_wp2_with fail
 refine (parts_any A c n es w1 (HE.o.bm HB.o) HOK.o (by omega) (by omega)).mono ?_;rintro e w2 ⟨hb2,g,rfl,hg,hblk⟩;have HB2:=lH (HB.o.tm hb2);have HG:=lH hg;have HBL:=lH hblk;clear hb2 hg hblk
 go_wp2_with fail
 go_ret2;exact HP.o _ _ ⟨HB2.o,g,rfl,zI_ HB.o.size HG.o,HBL.o⟩
def swE1 (nodes:List ByteArray) (op:Bool) (s:Sw):List (Nat×Nat):=if s.opn=op then [(ndIdx nodes s.a,ndIdx nodes s.b)] else []
def swE (x:Net) (op:Bool):List (Nat×Nat):=x.sws.flatMap (swE1 x.nodes op)
theorem takeFM {α β:Type} (f:α→List β) {l:List α} {k:Nat} {x:α} (h:l[k]?=some x):(l.take (k+1)).flatMap f=(l.take k).flatMap f++f x:=by
 rw [List.take_add_one,h,List.flatMap_append];simp
theorem lenFM {α β:Type} (f:α→List β) (m:Nat) (h:∀ a,(f a).length≤m):∀ l:List α,(l.flatMap f).length≤m*l.length
 | []=>by simp
 | a::l=>by
  have h1:=lenFM f m h l;have h2:=h a;rw [List.flatMap_cons,zE_,zV_,Nat.mul_succ];omega
theorem swE1_len (nodes:List ByteArray) (op:Bool) (s:Sw):(swE1 nodes op s).length≤1:=by unfold swE1;split<;>simp
theorem infoP2:(Tryz.prog.info? 166).map (fun i=>(i.zero,i.size,i.bytes))=some (some (.agg #[.int .i64 0,.int .i64 0]),2,16):=by kernel_rfl
structure EgS (w0 W:World) (h:NetH) (v6 v7:Value) (es:List (Nat×Nat)) (ws:List Value):Prop where
 low:Below w0.heap.size w0 W
 q1:Blk W w0.heap.size 29 h.cells
 o6:W.ownsRow (w0.heap.size+1) 166 2 v6 es.length (es.flatMap edC)
 o7:W.ownsRow (w0.heap.size+1) 3 1 v7 ws.length ws
 ap:v7.ownBlock=none∨v7.ownBlock≠v6.ownBlock
 sz:w0.heap.size+1≤W.heap.size
theorem own_up {w w':World} {base e size n:Nat} {v:Value} {xs:List Value} (h:w.ownsRow base e size v n xs) (hb:Below w.heap.size w w'):w'.ownsRow base e size v n xs:=by
 refine ⟨h.1,?_⟩;rcases h.2 with h1 | ⟨g,cap,cur,h1,h2,h3,h4⟩
 ·exact .inl h1
 ·refine .inr ⟨g,cap,cur,h1,h2,?_,h4⟩
  have hg:g<w.heap.size:=by
   rcases Nat.lt_or_ge g w.heap.size with hlt | hge
   ·exact hlt
   ·rw [Array.getElem?_eq_none hge] at h3;cases h3
  exact (hb.block g hg).trans h3
theorem EgS.up {w0 W W':World} {h:NetH} {v6 v7:Value} {es:List (Nat×Nat)} {ws:List Value} (H:EgS w0 W h v6 v7 es ws) (hb:Below W.heap.size W W'):EgS w0 W' h v6 v7 es ws:=
 ⟨H.low.tm hb,H.q1.bl hb,own_up H.o6 hb,own_up H.o7 hb,H.ap,zI_ H.sz hb.size⟩
theorem own_far {w:World} {B e size n g:Nat} {v:Value} {xs:List Value} (h:w.ownsRow B e size v n xs) (hg:v.ownBlock=some g):B≤g∧g<w.heap.size:=h.lt g hg
theorem EgS.app6 {w0 W W' W1:World} {h:NetH} {v6 v7:Value} {es:List (Nat×Nat)} {ws:List Value} (H:EgS w0 W h v6 v7 es ws) (hb:Below W.heap.size W W') {p:Nat×Nat} {g cap:Nat}
    (ho:W1.ownsRow (w0.heap.size+1) 166 2 (.slice (some ⟨g,0,none⟩) (es.length+1) cap) (es.length+1) (es.flatMap edC++edC p)) (hg:W'.grownBy W1 v6.ownBlock) (hat:v6.ownBlock=some g∨g=W'.heap.size) :
    EgS w0 W1 h (.slice (some ⟨g,0,none⟩) (es.length+1) cap) v7 (es++[p]) ws:=by
 have H':=H.up hb;have hne:v7.ownBlock=none∨v7.ownBlock≠v6.ownBlock:=H'.ap;have hlow:Below w0.heap.size w0 W1:=by
  refine ⟨hg.os.trans H'.low.os,hg.tape.trans H'.low.tape,hg.output.trans H'.low.output,zI_ H'.low.size hg.size,fun i hi=>?_⟩;have hne:some i≠v6.ownBlock:=fun e=>by have:=(own_far H'.o6 e.symm).1;omega
  exact (hg.block i (by have:=H'.sz;omega) hne).trans (H'.low.block i hi)
 refine ⟨hlow,H'.q1.grown hg (fun e=>?_),?_,H'.o7.kept hg hne,?_,zI_ H'.sz hg.size⟩
 ·have:=(own_far H'.o6 e.symm).1;omega
 ·rw [zE_,List.flatMap_append]
  simpa [edC] using ho
 ·rcases hne with h1 | h1
  ·exact .inl h1
  ·right
   intro e;rcases hat with h2 | h2
   ·rw [h2] at h1;exact h1 e
   ·have h3:v7.ownBlock=some g:=e
    have:=(own_far H'.o7 h3).2;omega
theorem EgS.app7 {w0 W W' W1:World} {h:NetH} {v6 v7:Value} {es:List (Nat×Nat)} {ws:List Value} (H:EgS w0 W h v6 v7 es ws) (hb:Below W.heap.size W W') {u:Value} {g cap:Nat}
    (ho:W1.ownsRow (w0.heap.size+1) 3 1 (.slice (some ⟨g,0,none⟩) (ws.length+1) cap) (ws.length+1) (ws++[u])) (hg:W'.grownBy W1 v7.ownBlock) (hat:v7.ownBlock=some g∨g=W'.heap.size) :
    EgS w0 W1 h v6 (.slice (some ⟨g,0,none⟩) (ws.length+1) cap) es (ws++[u]):=by
 have H':=H.up hb;have hap:=H'.ap;have hne:v6.ownBlock=none∨v6.ownBlock≠v7.ownBlock:=by
  rcases hap with h1 | h1
  ·rw [h1]
   cases h6:v6.ownBlock with
   | none=>exact .inl rfl
   | some k=>exact .inr (by simp)
  ·exact .inr (Ne.symm h1)
 have hlow:Below w0.heap.size w0 W1:=by
  refine ⟨hg.os.trans H'.low.os,hg.tape.trans H'.low.tape,hg.output.trans H'.low.output,zI_ H'.low.size hg.size,fun i hi=>?_⟩;have hne:some i≠v7.ownBlock:=fun e=>by have:=(own_far H'.o7 e.symm).1;omega
  exact (hg.block i (by have:=H'.sz;omega) hne).trans (H'.low.block i hi)
 refine ⟨hlow,H'.q1.grown hg (fun e=>?_),H'.o6.kept hg hne,by rw [zE_];exact ho,?_,zI_ H'.sz hg.size⟩
 ·have:=(own_far H'.o7 e.symm).1;omega
 ·right
  intro e;rcases hat with h2 | h2
  ·rcases hap with h1 | h1
   ·rw [h1] at h2;cases h2
   ·rw [h2] at h1;exact h1 e
  ·have h3:v6.ownBlock=some g:=e.symm
   have:=(own_far H'.o6 h3).2;omega
theorem nodeIx {nodes:List ByteArray} {s:ByteArray} (hs:s∈nodes):idxGo (fun x=>sEq s x) nodes 0=((ndIdx nodes s:Nat):Int):=(ndIdx_ok hs).1
theorem pr_news (w:World) (p:Nat×Nat) (t:TypeId):∀ (j:Nat) (u:Value),(edC p)[j]?=some u→((w.alloc (.cells #[.int .i64 p.1,.int .i64 p.2] t)).drew).cell? ((⟨w.heap.size,0,none⟩:Addr).add j)=some u:=
 World.news_of_block (w:=(w.alloc (.cells #[.int .i64 p.1,.int .i64 p.2] t)).drew) (B:=w.heap.size) (cs:=#[.int .i64 p.1,.int .i64 p.2]) (t:=t) (fr:=(0,0)) (Blk.new w t _)
theorem pr_one (p:Nat×Nat):∀ u∈edC p,u.oneCell'=true:=by
 intro u hu;unfold edC at hu;simp at hu;rcases hu with rfl | rfl<;>rfl
theorem cellAl {w:World} {b o:Nat} {v:Value} {ob:Obj} (h:w.cell? ⟨b,o,none⟩=some v) (hb:b<w.heap.size):(w.alloc ob).cell? ⟨b,o,none⟩=some v:=by
 rw [((Below.refl w.heap.size w).alloc lR ob).cell (p:=⟨b,o,none⟩) hb];exact h
def EdgP (x:Net) (op:Bool) (w:World) (e:Ending) (w':World):Prop:=
 Below w.heap.size w w'∧∃ (v6 v7:Value),e=.returned (.tuple #[v6,v7])∧w'.ownsRow (w.heap.size+1) 166 2 v6 (swE x op).length ((swE x op).flatMap edC)
theorem edgP_of (x:Net) (op:Bool) (w:World) (e:Ending) (w':World) (h:Below w.heap.size w w'∧∃ (v6 v7:Value),e=.returned (.tuple #[v6,v7])∧w'.ownsRow (w.heap.size+1) 166 2 v6 (swE x op).length ((swE x op).flatMap edC)):EdgP x op w e w':=h
theorem edges_any (h:NetH) (x:Net) (ok:NetOk x) (op:Bool) (w:World) (hR:RdNet w w.heap.size h x) :
    Calls Tryz.prog 131 #[.agg h.cells,.bool op] w (EdgP x op w):=by
 obtain ⟨A0,n0,c0,A1,n1,c1,A2,n2,c2,A3,n3,c3,A4,n4,c4,A5,n5,c5⟩:=h;dsimp only [NetH.cells] at *;have HOK:=lH ok;have HR:=lH hR;have HP:=lH (edgP_of x op w);obtain ⟨i0,hi0,hi1,hi2,hi3⟩:=info_parts infoP2;have HI0:=lH hi0;have HI1:=lH hi1;have HI2:=lH hi2;have HI3:=lH hi3;obtain ⟨j0,hj0,hj1,hj2,hj3⟩:=info_parts infoIn;have HJ0:=lH hj0;have HJ1:=lH hj1;have HJ2:=lH hj2;have HJ3:=lH hj3;have HN1:Hid (x.sws.length=n1):=lH hR.r1.1;have hn132:n1≤32:=by have:=ok.l1;have:=HN1.o;omega
 have hn63:n0≤9223372036854775807:=hR.m0;have HS0:Hid (EgS w (w.alloc (.cells #[.slice A0 n0 c0,.slice A1 n1 c1,.slice A2 n2 c2,.slice A3 n3 c3,.slice A4 n4 c4,.slice A5 n5 c5] 29)) ⟨A0,n0,c0,A1,n1,c1,A2,n2,c2,A3,n3,c3,A4,n4,c4,A5,n5,c5⟩ (.slice none 0 0) (.slice none 0 0) [] []):=lH
  ⟨bA,Blk.new w _ _,World.ownsRow_nil _ _ _ _,World.ownsRow_nil _ _ _ _,.inl rfl,by simp⟩
 clear hi0 hi1 hi2 hi3 hj0 hj1 hj2 hj3 ok hR;obtain ⟨y0,y1,y2,y3,y4,y5,nf,nlt⟩:=net_box (h:=⟨A0,n0,c0,A1,n1,c1,A2,n2,c2,A3,n3,c3,A4,n4,c4,A5,n5,c5⟩) HS0.o.q1;go_enter Tryz.func131,Tryz.ntmps131
 go_wp2_with fail
 generalize w.alloc (.cells #[.slice A0 n0 c0,.slice A1 n1 c1,.slice A2 n2 c2,.slice A3 n3 c3,.slice A4 n4 c4,.slice A5 n5 c5] 29)=w1 at *;clear y0 y1 y2 y3 y4 y5 nf nlt
 go_loopw [6,7,13] (fun v6 v7 i wr=>∃ (k:Nat) (ws:List Value),k≤n1∧i=.int .i64 k∧ws.length≤k∧EgS w wr ⟨A0,n0,c0,A1,n1,c1,A2,n2,c2,A3,n3,c3,A4,n4,c4,A5,n5,c5⟩ v6 v7 ((x.sws.take k).flatMap (swE1 x.nodes op)) ws) (fun _ _ i _=>n1-(intOf i).toNat)
 case atStart=>exact ⟨0,[],by omega,rfl,by simp,HS0.o⟩
 case round=>
  clear HS0;obtain ⟨k,ws,hk,rfl,hwl,hs⟩:=hrel;have HS:=lH hs;have HWL:=lH hwl;obtain ⟨y0,y1,y2,y3,y4,y5,nf,nlt⟩:=net_box hs.q1;clear hs hwl
  by_cases hlt:k<n1
  ·obtain ⟨z,hz⟩:∃ z,x.sws[k]?=some z:=zX_ (by have:=HN1.o;omega)
   have hrw:=HR.o.up HS.o.low;obtain ⟨bz,oz,hA,hbz⟩:=hrw.r1.form (by dsimp only;omega);dsimp only at hA;subst hA;obtain ⟨e0,e1,e2,e3,e4⟩:=hrw.r1.at_ hz;have HRN:=lH hrw.r0;have HZS:=lH (HOK.o.sw z (zC_ hz));have HZ:=lH (takeFM (swE1 x.nodes op) hz);have HZL:Hid (((x.sws.take k).flatMap (swE1 x.nodes op)).length≤1000):=lH (by
    have h1:=lenFM (swE1 x.nodes op) 1 (swE1_len x.nodes op) (x.sws.take k);have:=HN1.o;rw [zF_] at h1;omega)
   have HWB:=lH ((Below.refl wr.heap.size wr).alloc lR (.cells #[.string z.name,.string z.a,.string z.b,.bool z.breaker,.bool z.opn] 148));have HS2:=lH (HS.o.up HWB.o);have HBX:Hid (Blk (wr.alloc (.cells #[.string z.name,.string z.a,.string z.b,.bool z.breaker,.bool z.opn] 148)) wr.heap.size 148 #[.string z.name,.string z.a,.string z.b,.bool z.breaker,.bool z.opn]):=lH (Blk.new wr _ _);have hkI:(k:Int)<(n1:Int):=by omega
   clear hz hrw
   by_cases hop:z.opn=op
   ·have HE1:Hid (swE1 x.nodes op z=[(ndIdx x.nodes z.a,ndIdx x.nodes z.b)]):=lH (by unfold swE1;rw [if_pos hop])
    have hop':(z.opn == op)=true:=by simp [hop]
    have HRN2:Hid (RdStr (wr.alloc (.cells #[.string z.name,.string z.a,.string z.b,.bool z.breaker,.bool z.opn] 148)) (wr.alloc (.cells #[.string z.name,.string z.a,.string z.b,.bool z.breaker,.bool z.opn] 148)).heap.size A0 n0 x.nodes):=lH (HRN.o.bm HWB.o);rw [hop] at HS2 HBX HRN2 HWB e4;clear hop hop'
    go_wp2_with fail
    have hzw:wr.heap.size<(wr.alloc (.cells #[.string z.name,.string z.a,.string z.b,.bool z.breaker,.bool op] 148)).heap.size:=by simp
    have hv1:u6.ownBlock≠some w.heap.size:=fun e=>by have:=(HS.o.o6.lt _ e).1;omega
    have hv2:u6.ownBlock≠some wr.heap.size:=fun e=>by have:=(HS.o.o6.lt _ e).2;omega
    clear HWB HS HRN y0 y1 y2 y3 y4 y5 nf nlt e0 e1 e2 e3 e4;generalize hWW:wr.alloc (.cells #[.string z.name,.string z.a,.string z.b,.bool z.breaker,.bool op] 148)=W at *;generalize hzb:wr.heap.size=zb at *;have q0:W.cell? ⟨w.heap.size,0,none⟩=some (.slice A0 n0 c0):=HS2.o.q1.cell 0;have b1:W.cell? ⟨zb,1,none⟩=some (.string z.a):=HBX.o.cell 1;have b2:W.cell? ⟨zb,2,none⟩=some (.string z.b):=HBX.o.cell 2;have hsa:z.a∈x.nodes:=HZS.o.1;have hsb:z.b∈x.nodes:=HZS.o.2.1;generalize hE0:(x.sws.take k).flatMap (swE1 x.nodes op)=E0 at *;have HEE:=lH hE0;clear hE0 hWW hzb;have hbase:w.heap.size+1≤W.heap.size:=HS2.o.sz;generalize u6=v6 at *;refine wp_region_last (S:=fun w'=>w'.cell? ⟨w.heap.size,0,none⟩=some (.slice A0 n0 c0)∧w'.cell? ⟨zb,1,none⟩=some (.string z.a)∧w'.cell? ⟨zb,2,none⟩=some (.string z.b)) 14 _ (by kernel_rfl) (by kernel_rfl) rfl ⟨q0,b1,b2⟩ (fun hHeld=>?_)
    simp only [zK_,List.take_zero];refine takeH 0 (v:=?_) rfl (by kernel_rfl) (fun _ _ _ h=>h) (by rfl) ?_ hHeld ?_;rotate_left 1
    ·intro w' hSw;(try dsimp only at hSw);go_simp<;>with_reducible rfl
    try simp only [Act.put,sA_,sB_,sC_]
    refine takeH 1 (v:=?_) rfl (by kernel_rfl) (fun _ _ _ h=>h) (by rfl) ?_ hHeld ?_;rotate_left 1
    ·intro w' hSw;(try dsimp only at hSw);go_simp<;>with_reducible rfl
    try simp only [Act.put,sA_,sB_,sC_]
    refine takeH 2 (v:=?_) rfl (by kernel_rfl) (fun _ _ _ h=>h) (by rfl) ?_ hHeld ?_;rotate_left 1
    ·intro w' hSw;(try dsimp only at hSw);go_simp<;>with_reducible rfl
    try simp only [Act.put,sA_,sB_,sC_]
    refine takeH 3 (v:=?_) rfl (by kernel_rfl) (fun _ _ _ h=>h) (by rfl) ?_ hHeld ?_;rotate_left 1
    ·intro w' hSw;(try dsimp only at hSw);go_simp<;>with_reducible rfl
    try simp only [Act.put,sA_,sB_,sC_]
    refine takeH 4 (v:=?_) rfl (by kernel_rfl) (fun _ _ _ h=>h) (by rfl) ?_ hHeld ?_;rotate_left 1
    ·intro w' hSw;(try dsimp only at hSw);go_simp<;>with_reducible rfl
    try simp only [Act.put,sA_,sB_,sC_]
    refine takeH 6 (v:=?_) rfl (by kernel_rfl) (fun _ _ _ h=>h) (by rfl) ?_ hHeld ?_;rotate_left 1
    ·intro w' hSw;(try dsimp only at hSw);go_simp<;>with_reducible rfl
    try simp only [Act.put,sA_,sB_,sC_]
    refine takeH 7 (v:=?_) rfl (by kernel_rfl) (fun _ _ _ h=>h) (by rfl) ?_ hHeld ?_;rotate_left 1
    ·intro w' hSw;(try dsimp only at hSw);go_simp<;>with_reducible rfl
    try simp only [Act.put,sA_,sB_,sC_]
    refine takeH 8 (v:=?_) rfl (by kernel_rfl) (fun _ _ _ h=>h) (by rfl) ?_ hHeld ?_;rotate_left 1
    ·intro w' hSw;(try dsimp only at hSw);go_simp<;>with_reducible rfl
    try simp only [Act.put,sA_,sB_,sC_]
    refine takeH 9 (v:=?_) rfl (by kernel_rfl) (fun _ _ _ h=>h) (by rfl) ?_ hHeld ?_;rotate_left 1
    ·intro w' hSw;(try dsimp only at hSw);go_simp<;>with_reducible rfl
    try simp only [Act.put,sA_,sB_,sC_]
    refine stepH 5 (by kernel_rfl) rfl (fun K hK=>?_);go_simp;refine (index_str A0 n0 c0 x.nodes z.a W.drew HRN2.o hn63).mono ?_;rw [nodeIx hsa];rintro e w' ⟨rfl,rfl⟩;go_simp;refine hK.out _ _ ?_ (fun hHeld=>?_)
    ·exact hHeld
    clear hK K
    try simp only [Act.put,sA_,sB_,sC_]
    refine stepH 10 (by kernel_rfl) rfl (fun K hK=>?_);go_simp;refine (index_str A0 n0 c0 x.nodes z.b W.drew HRN2.o hn63).mono ?_;rw [nodeIx hsb];rintro e w' ⟨rfl,rfl⟩;go_simp;refine hK.out _ _ ?_ (fun hHeld=>?_)
    ·exact hHeld
    clear hK K
    try simp only [Act.put,sA_,sB_,sC_]
    refine takeH 11 (v:=?_) rfl (by kernel_rfl) (fun _ _ _ h=>h) (by rfl) ?_ hHeld ?_;rotate_left 1
    ·intro w' hSw;(try dsimp only at hSw);go_simp<;>with_reducible rfl
    try simp only [Act.put,sA_,sB_,sC_]
    refine stepH 12 (by kernel_rfl) rfl (fun K hK=>?_);go_simp;refine hK.out _ _ ?_ (fun hHeld=>?_)
    ·exact ⟨cellAl q0 (by omega),cellAl b1 (by omega),cellAl b2 (by omega)⟩
    clear hK K
    try simp only [Act.put,sA_,sB_,sC_]
    refine stepH 13 (by kernel_rfl) rfl (fun K hK=>?_);refine step_append_lies _ (by rfl) _ _ _ (by rfl) (w.heap.size+1) 166 i0 _ 2 16 Tryz.underlying165 HI0.o HI1.o HI2.o HI3.o rfl (by omega) v6 _ _ (by rfl) ((HS2.o.o6.alloc _).drew) ⟨W.heap.size,0,none⟩ 1 1 (edC (ndIdx x.nodes z.a,ndIdx x.nodes z.b)) (by rfl) (by rfl) (pr_news W (ndIdx x.nodes z.a,ndIdx x.nodes z.b) 166) (pr_one _) (by omega) (by have:=HZL.o;simp only [maxLen];omega) (by have:=HZL.o;omega) (by simp;omega) (W.heap.size+1) (by simp) ?_;intro gg cap w1 hown1 hgrow hat hlt1;refine hK.out _ _ ?_ (fun hHeld=>?_)
    ·exact ⟨(hgrow.cell_far ⟨w.heap.size,0,none⟩ (by simp;omega) (Ne.symm hv1)).trans (cellAl q0 (by omega)),(hgrow.cell_far ⟨zb,1,none⟩ (by simp;omega) (Ne.symm hv2)).trans (cellAl b1 (by omega)),(hgrow.cell_far ⟨zb,2,none⟩ (by simp;omega) (Ne.symm hv2)).trans (cellAl b2 (by omega))⟩
    clear hK K
    try simp only [Act.put,sA_,sB_,sC_]
    refine wpAnyH_done (by kernel_rfl) ?_ _;refine lastQ_go (by rfl) ?_;have HS5:=lH (HS2.o.app6 (below_drew (bA)) hown1 hgrow (by simpa using hat));clear hgrow hat hown1 hHeld;have hJL:ws.length≤1000:=by have:=HWL.o;omega
    generalize hv6:(Value.slice (some (⟨gg,0,none⟩:Addr)) (E0.length+1) cap)=v6' at HS5 ⊢;have HV6:=lH hv6;clear hv6;have hb5:w.heap.size+1≤w1.heap.size:=HS5.o.sz;have HN5:Hid (∀ (j:Nat) (u:Value),([Value.int .i64 k]:List Value)[j]?=some u→((w1.alloc (.cells #[.int .i64 k] 3))).cell? ((⟨w1.heap.size,0,none⟩:Addr).add j)=some u):=lH (World.news_of_block (B:=w1.heap.size) (cs:=#[.int .i64 k]) (t:=3) (fr:=(0,0)) (Blk.new w1 _ _));go_simp
    go_wp2_with (at_builtin;refine wpList_append_lies _ rfl (.tmp 36) (.tmp 38) 30 rfl (w.heap.size+1) 3 j0 _ 1 8 Tryz.underlying30 HJ0.o HJ1.o HJ2.o HJ3.o rfl (by omega) u7 _ _ rfl (HS5.o.o7.alloc _) ⟨w1.heap.size,0,none⟩ 1 1 [.int .i64 k] rfl rfl HN5.o (by intro u hu;rw [List.mem_singleton.1 hu];rfl) (by omega) (by simp only [maxLen];omega) (by omega) (by simp;omega) (w1.heap.size+1) (by simp) ?_;intro g2 cap2 w2 hown2 hgrow2 hat2 hlt2)
    have HS6:=lH (HS5.o.app7 (bA) hown2 hgrow2 (by simpa using hat2));clear hown2 hgrow2 hat2;go_roundw
    case rel=>exact ⟨k+1,ws++[.int .i64 k],by omega,by go_num,by rw [zE_,List.length_singleton];have:=HWL.o;omega,by rw [HZ.o,HE1.o];exact HS6.o⟩
    case measure=>simp [intOf];omega
   ·have HE1:Hid (swE1 x.nodes op z=[]):=lH (by unfold swE1;rw [if_neg hop])
    have hop':(z.opn == op)=false:=by simpa using hop
    generalize z.opn=zo at *;clear hop
    go_wp2_with fail
    go_roundw
    case rel=>exact ⟨k+1,ws,by omega,by go_num,by have:=HWL.o;omega,by rw [HZ.o,HE1.o,List.append_nil];exact HS2.o⟩
    case measure=>simp [intOf];omega
  ·have hkk:n1=k:=by omega
   subst hkk;have HFIN:Hid (x.sws.take n1=x.sws):=lH (zH_ (by have:=HN1.o;omega))
   go_wp2_with fail
   go_ret2;have h:=HS.o;rw [HFIN.o] at h;exact HP.o _ _ ⟨h.low,_,_,rfl,h.o6⟩
end
section
def unitL (n i:Nat):List Rat:=(List.replicate n 0).set i 1
def extR (M:List (List Rat)):List (List Rat):=M.mapIdx fun i row=>row++unitL M.length i
theorem extR_len (M:List (List Rat)):(extR M).length=M.length:=by unfold extR;rw [List.length_mapIdx]
theorem extR_at {M:List (List Rat)} {i:Nat} {row:List Rat} (h:M[i]?=some row):(extR M)[i]?=some (row++unitL M.length i):=by
 unfold extR;rw [List.getElem?_mapIdx,h];rfl
theorem extR_wid {M:List (List Rat)} (h:∀ a∈M,a.length=M.length):∀ a∈extR M,a.length=M.length+M.length:=fun a ha=>by
 obtain ⟨i,hi⟩:=List.mem_iff_getElem?.1 ha;obtain ⟨row,hr⟩:∃ row,M[i]?=some row:=zX_ (by have:=(zB_.1 hi).1;rwa [extR_len] at this);rw [extR_at hr] at hi;injection hi with hi;rw [←hi,zE_,h row (zC_ hr)];unfold unitL;rw [zU_,zO_]
def invL (M:List (List Rat)):List (List Rat):=(redR (extR M) M.length).1.map (List.drop M.length)
def Reg (M:List (List Rat)):Prop:=¬(redR (extR M) M.length).2.length<M.length
theorem sumTo_split (f:Fn) (n:Nat):∀ m:Nat,sumTo (n+m) f=sumTo n f+sumTo m (fun j=>f (n+j))
 | 0=>by simp only [Nat.add_zero,sumTo];rw [Rat.add_zero]
 | m+1=>by
  rw [←Nat.add_assoc];simp only [sumTo];rw [sumTo_split f n m,Rat.add_assoc]
theorem inc_ge:∀ {l:List Nat} {k t p:Nat},l.Pairwise (·<·)→(∀ x∈l,k≤x)→l[t]?=some p→k+t≤p
 | x::l,k,0,p,_,h,e=>by simp at e;subst e;exact h x (by simp)
 | x::l,k,t+1,p,hp,h,e=>by
  rw [List.pairwise_cons] at hp;have:=inc_ge (k:=k+1) hp.2 (fun y hy=>by have:=hp.1 y hy;have:=h x (by simp);omega) (by simpa using e);omega
 | [],_,_,_,_,_,e=>by simp at e
theorem inc_le:∀ {l:List Nat} {n t p:Nat},l.Pairwise (·<·)→(∀ x∈l,x<n)→l[t]?=some p→p+(l.length-t)≤n
 | [x],n,0,p,_,h,e=>by simp at e;subst e;have:=h x (by simp);simp;omega
 | x::y::l,n,0,p,hp,h,e=>by
  simp at e;subst e;rw [List.pairwise_cons] at hp;have h1:=inc_le (t:=0) hp.2 (fun z hz=>h z (by simp [hz])) rfl;have h2:=hp.1 y (by simp);simp only [zV_] at h1 ⊢;omega
 | x::l,n,t+1,p,hp,h,e=>by
  rw [List.pairwise_cons] at hp;have:=inc_le (t:=t) hp.2 (fun z hz=>h z (by simp [hz])) (by simpa using e);simp only [zV_];omega
 | [],_,_,_,_,_,e=>by simp at e
theorem inc_all {l:List Nat} {n t p:Nat} (h1:l.Pairwise (·<·)) (h2:∀ x∈l,x<n) (h3:l.length=n) (h:l[t]?=some p):p=t:=by
 have a:=inc_ge (k:=0) h1 (fun _ _=>Nat.zero_le _) h;have b:=inc_le h1 h2 h;have c:=(zB_.1 h).1;omega
section
variable {M:List (List Rat)}
theorem vf_app {a b:List Rat} {j:Nat} (h:j<a.length):vf (a++b) j=vf a j:=by
 unfold vf;rw [zD_,zD_,zR_ h]
theorem vf_app2 {a b:List Rat} {j:Nat}:vf (a++b) (a.length+j)=vf b j:=by
 unfold vf;rw [zD_,zD_,zN_ (by omega),Nat.add_sub_cancel_left]
theorem vf_drop {a:List Rat} {n j:Nat}:vf (a.drop n) j=vf a (n+j):=by
 unfold vf;rw [zD_,zD_,List.getElem?_drop]
theorem vf_unit {n i j:Nat} (hj:j<n):vf (unitL n i) j=if j=i then 1 else 0:=by
 unfold vf unitL;rw [zD_,List.getElem?_set]
 by_cases h:i=j
 ·subst h
  rw [if_pos rfl,if_pos (by rw [zO_];exact hj),if_pos rfl];rfl
 ·rw [if_neg h,if_neg (fun e=>h e.symm),List.getElem?_replicate,if_pos hj]
  rfl
theorem ext_ker (hw:∀ a∈M,a.length=M.length) (x:Fn):Ker M.length (vfs (extR M)) x↔Ker M.length (vfs M) x:=by
 rw [ker_iff,ker_iff];have key:∀ (i:Nat) (a:List Rat),M[i]?=some a→dotn M.length (vf (a++unitL M.length i)) x=dotn M.length (vf a) x:=fun i a hi=>
  dotn_congr (fun j hj=>vf_app (by rw [hw a (zC_ hi)];exact hj)) fun _ _=>rfl
 constructor
 ·intro h i a hi
  rw [←key i a hi];exact h i _ (extR_at hi)
 ·intro h i a hi
  obtain ⟨row,hr⟩:∃ row,M[i]?=some row:=zX_ (by have:=(zB_.1 hi).1;rwa [extR_len] at this);rw [extR_at hr] at hi;injection hi with hi;rw [←hi,key i row hr];exact h i row hr
theorem reg_iff (hw:∀ a∈M,a.length=M.length):Reg M↔∀ x,Ker M.length (vfs M) x→∀ j,j<M.length→x j=0:=by
 have R:=redR_ok (M:=extR M) (cols:=M.length) (extR_wid hw) (Nat.le_add_right _ _);have hle:=R.ech.le;rw [vfs_len,R.len,extR_len] at hle;unfold Reg
 constructor
 ·intro h x hx
  exact (rank_full R.ech).1 (by omega) x ((R.ker M.length (Nat.le_add_right _ _) x).2 ((ext_ker hw x).2 hx))
 ·intro h
  have:=(rank_full R.ech).2 fun x hx=>h x ((ext_ker hw x).1 ((R.ker M.length (Nat.le_add_right _ _) x).1 hx));omega
theorem invL_len (hw:∀ a∈M,a.length=M.length):(invL M).length=M.length∧∀ a∈invL M,a.length=M.length:=by
 have R:=redR_ok (M:=extR M) (cols:=M.length) (extR_wid hw) (Nat.le_add_right _ _);refine ⟨by unfold invL;rw [zG_,R.len,extR_len],fun a ha=>?_⟩;unfold invL at ha;obtain ⟨e,he,rfl⟩:=List.mem_map.1 ha;rw [zS_,R.wid e he];omega
def invMul (M:List (List Rat)) (b:Fn):Fn:=fun t=>dotn M.length (vf ((invL M).getD t [])) b
theorem inv_mul (hw:∀ a∈M,a.length=M.length) (hr:Reg M) (b:Fn) {i:Nat} {a:List Rat} (hi:M[i]?=some a):dotn M.length (vf a) (invMul M b)=b i:=by
 have R:=redR_ok (M:=extR M) (cols:=M.length) (extR_wid hw) (Nat.le_add_right _ _);have hle:=R.ech.le;rw [vfs_len,R.len,extR_len] at hle;have hpl:(redR (extR M) M.length).2.length=M.length:=by unfold Reg at hr;omega
 have hil:=(zB_.1 hi).1;obtain ⟨x,hx⟩:∃ x:Fn,x=fun j=>if j<M.length then invMul M b j else -(b (j-M.length)):=⟨_,rfl⟩;have hx1:∀ j,j<M.length→x j=invMul M b j:=fun j hj=>by rw [hx];simp only;rw [if_pos hj]
 have hx2:∀ j,x (M.length+j)=-(b j):=fun j=>by rw [hx];simp only;rw [if_neg (by omega),Nat.add_sub_cancel_left]
 have hk:Ker (M.length+M.length) (vfs (redR (extR M) M.length).1) x:=by
  rw [ker_iff];intro t e ht;have htl:=(zB_.1 ht).1;rw [R.len,extR_len] at htl;obtain ⟨p,hp⟩:∃ p,(redR (extR M) M.length).2[t]?=some p:=zX_ (by omega);have hpt:=inc_all R.ech.inc R.ech.lt hpl hp;subst hpt;have hone:=R.ech.one p p (vf e) hp (vfs_get ht);have hzer:∀ j,j<M.length→j≠p→vf e j=0:=fun j hj hne=>by
   obtain ⟨q,hq⟩:∃ q,(redR (extR M) M.length).2[j]?=some q:=zX_ (by omega);have:=inc_all R.ech.inc R.ech.lt hpl hq;subst this;exact R.ech.zer q q p (vf e) hq (vfs_get ht) (fun h=>hne h.symm)
  unfold dotn;rw [sumTo_split];have h1:sumTo M.length (fun j=>vf e j*x j)=invMul M b p:=by
   rw [sumTo_one htl (fun j hj hne=>by rw [hzer j hj hne,Rat.zero_mul]),hone,Rat.one_mul,hx1 p htl]
  have h2:sumTo M.length (fun j=>vf e (M.length+j)*x (M.length+j))=-(invMul M b p):=by
   have h3:(invL M).getD p []=e.drop M.length:=by
    unfold invL;rw [zD_,zM_,ht];rfl
   unfold invMul dotn;rw [h3,show ∀ z:Rat,-z=(-1)*z from fun z=>by grind,←sumTo_mul];refine sumTo_congr fun j hj=>?_;rw [hx2,vf_drop];grind
  rw [h1,h2];grind
 have hk2:=(R.ker _ lR x).1 hk;rw [ker_iff] at hk2;have h0:=hk2 i _ (extR_at hi);unfold dotn at h0;rw [sumTo_split] at h0;have hal:=hw a (zC_ hi);have h1:sumTo M.length (fun j=>vf (a++unitL M.length i) j*x j)=dotn M.length (vf a) (invMul M b):=
  sumTo_congr fun j hj=>by rw [vf_app (by omega),hx1 j hj]
 have h2:sumTo M.length (fun j=>vf (a++unitL M.length i) (M.length+j)*x (M.length+j))=-(b i):=by
  rw [sumTo_one hil (fun j hj hne=>by
   have:=vf_app2 (a:=a) (b:=unitL M.length i) (j:=j);rw [hal] at this;rw [this,vf_unit hj,if_neg hne,Rat.zero_mul])]
  have:=vf_app2 (a:=a) (b:=unitL M.length i) (j:=i);rw [hal] at this;rw [this,vf_unit hil,if_pos rfl,Rat.one_mul,hx2]
 rw [h1,h2] at h0;grind
end
def cnt (p:Nat→Bool) (b:Nat):Nat:=((List.range b).filter p).length
theorem cnt_succ (p:Nat→Bool) (b:Nat):cnt p (b+1)=cnt p b+if p b then 1 else 0:=by
 unfold cnt;rw [List.range_succ,List.filter_append,zE_];congr 1
 cases h:p b<;>simp [h]
def pick (p:Nat→Bool) (n:Nat):List Nat:=(List.range n).filter p
theorem pick_len (p:Nat→Bool) (n:Nat):(pick p n).length=cnt p n:=rfl
def ext (p:Nat→Bool) (x:Fn) (b:Nat):Rat:=if p b then x (cnt p b) else 0
theorem vf_app_lt {l m:List Rat} {i:Nat} (h:i<l.length):vf (l++m) i=vf l i:=by
 unfold vf;rw [zD_,zD_,zR_ h]
theorem vf_app_at (l:List Rat) (y:Rat):vf (l++[y]) l.length=y:=vf_at (by simp)
theorem pick_dot (p:Nat→Bool) (c:Nat→Rat) (x:Fn):∀ n:Nat,dotn (cnt p n) (vf ((pick p n).map c)) x=sumTo n fun b=>c b*ext p x b
 | 0=>rfl
 | n+1=>by
  have ih:=pick_dot p c x n;rw [sumTo,←ih];have hl:((pick p n).map c).length=cnt p n:=by rw [zG_,pick_len]
  cases hp:p n with
  | false=>
   have e1:cnt p (n+1)=cnt p n:=by rw [cnt_succ,hp];rfl
   have e2:pick p (n+1)=pick p n:=by unfold pick;rw [List.range_succ,List.filter_append];simp [hp]
   rw [e1,e2];unfold ext;rw [hp];simp only [Bool.false_eq_true,if_false];rw [Rat.mul_zero,Rat.add_zero]
  | true=>
   have e1:cnt p (n+1)=cnt p n+1:=by rw [cnt_succ,hp];rfl
   have e2:pick p (n+1)=pick p n++[n]:=by unfold pick;rw [List.range_succ,List.filter_append];simp [hp]
   rw [e1,e2,List.map_append,List.map_singleton];unfold dotn;rw [sumTo];have e3:vf ((pick p n).map c++[c n]) (cnt p n)=c n:=by rw [←hl];exact vf_app_at _ _
   rw [e3];congr 1
   ·refine sumTo_congr fun i hi=>?_
    rw [vf_app_lt (by rw [hl];exact hi)]
   ·unfold ext
    rw [hp];simp
def two (a b:Nat) (k:Nat):Rat:=(if k=a then 1 else 0)-(if k=b then 1 else 0)
def arR (S:Nat→Nat→Bool):Nat→List Nat×Nat
 | 0=>([],0)
 | b+1=>match (List.range b).find? (fun a=>S a b) with
  | some a=>((arR S b).1++[(arR S b).1.getD a 0],(arR S b).2)
  | none=>((arR S b).1++[(arR S b).2],(arR S b).2+1)
theorem arR_succ (S:Nat→Nat→Bool) (b:Nat):arR S (b+1)=match (List.range b).find? (fun a=>S a b) with
    | some a=>((arR S b).1++[(arR S b).1.getD a 0],(arR S b).2)
    | none=>((arR S b).1++[(arR S b).2],(arR S b).2+1):=rfl
def newS (S:Nat→Nat→Bool) (b:Nat):Bool:=!(List.range b).any fun a=>S a b
theorem arR_len (S:Nat→Nat→Bool):∀ n:Nat,(arR S n).1.length=n
 | 0=>rfl
 | n+1=>by
  have:=arR_len S n;rw [arR_succ]
  split<;>simp [this]
def sameIs (l:List Nat) (a b:Nat):Bool:=l.getD a 0 == l.getD b 0
def freeB (l:List Nat) (b:Nat):Bool:=!newS (sameIs l) b
end
section
open Go.ChangeShapes Go.WideShapes Go.ChangeAt Go.RowKit
attribute [local go_sem ↓] execOp_call_val
attribute [local go_sem] callVal_func setCell_drewN alloc_drewN sEq_walk NetH.cells
theorem rdE_own {w:World} {B:Nat} {v:Value} {es:List (Nat×Nat)} (h:w.ownsRow B 166 2 v es.length (es.flatMap edC)):∃ A c,v=.slice A es.length c∧RdE w w.heap.size A es.length es:=by
 rcases h.2 with ⟨h1,h2⟩ | ⟨g,cap,cur,h1,h2,h3,h4,h5,h6,h7⟩
 ·refine ⟨none,0,by rw [h2];exact h1,rfl,h.1,fun h0=>by omega⟩
 ·refine ⟨_,_,h1,rfl,h.1,fun h0=>⟨g,0,rfl,?_,fun j u hu=>?_⟩⟩
  ·rcases Nat.lt_or_ge g w.heap.size with hlt | hge
   ·exact hlt
   ·rw [Array.getElem?_eq_none hge] at h3;cases h3
  ·rw [Nat.zero_add,cell_of_row w g j cur 166 (0,0) h3]
   rw [←h7] at hu;have hjl:=(zB_.1 hu).1;rw [List.getElem?_take_of_lt (by rw [zF_] at hjl;omega)] at hu;simpa using hu
def busR (x:Net):List Int:=partsR x.nodes.length (swE x false)
theorem swE_ok {x:Net} (ok:NetOk x) (op:Bool):(∀ p∈swE x op,p.1<x.nodes.length∧p.2<x.nodes.length)∧(swE x op).length≤32:=by
 refine ⟨fun p hp=>?_,?_⟩
 ·obtain ⟨s,hs,h1⟩:=List.mem_flatMap.1 hp
  unfold swE1 at h1
  split at h1
  ·rw [List.mem_singleton.1 h1]
   exact ⟨(ndIdx_ok (ok.sw s hs).1).2,(ndIdx_ok (ok.sw s hs).2.1).2⟩
  ·cases h1
 ·have h:=lenFM (swE1 x.nodes op) 1 (swE1_len x.nodes op) x.sws
  have:=ok.l1;unfold swE;omega
theorem busR_ok {x:Net} (ok:NetOk x):(busR x).length=x.nodes.length∧∀ b∈busR x,0≤b∧b<x.nodes.length:=parts_ok (swE_ok ok false).1
def BusP (x:Net) (n0:Nat) (w:World) (e:Ending) (w':World):Prop:=
 Below w.heap.size w w'∧∃ g:Nat,e=.returned (.slice (some ⟨g,0,none⟩) n0 n0)∧w.heap.size≤g∧Blk w' g 3 (ints (busR x)).toArray
theorem busP_of (x:Net) (n0:Nat) (w:World) (e:Ending) (w':World) (h:Below w.heap.size w w'∧∃ g:Nat,e=.returned (.slice (some ⟨g,0,none⟩) n0 n0)∧w.heap.size≤g∧Blk w' g 3 (ints (busR x)).toArray):BusP x n0 w e w':=h
theorem buses_any (h:NetH) (x:Net) (ok:NetOk x) (w:World) (hR:RdNet w w.heap.size h x) :
    Calls Tryz.prog 100 #[.agg h.cells] w (BusP x h.n0 w):=by
 obtain ⟨A0,n0,c0,A1,n1,c1,A2,n2,c2,A3,n3,c3,A4,n4,c4,A5,n5,c5⟩:=h;dsimp only [NetH.cells] at *;have HOK:=lH ok;have HP:=lH (busP_of x n0 w);have HB0:Hid (Below w.heap.size w (w.alloc (.cells #[.slice A0 n0 c0,.slice A1 n1 c1,.slice A2 n2 c2,.slice A3 n3 c3,.slice A4 n4 c4,.slice A5 n5 c5] 29))):=lH (bA);have HQ0:Hid (Blk (w.alloc (.cells #[.slice A0 n0 c0,.slice A1 n1 c1,.slice A2 n2 c2,.slice A3 n3 c3,.slice A4 n4 c4,.slice A5 n5 c5] 29)) w.heap.size 29 #[.slice A0 n0 c0,.slice A1 n1 c1,.slice A2 n2 c2,.slice A3 n3 c3,.slice A4 n4 c4,.slice A5 n5 c5]):=lH (Blk.new w _ _);have HR:=lH (hR.up HB0.o);have HN0:Hid (x.nodes.length=n0):=lH hR.r0.1;have hn0:n0≤24:=by have:=ok.l0;have:=HN0.o;omega
 clear ok hR;obtain ⟨y0,y1,y2,y3,y4,y5,nf,nlt⟩:=net_box (h:=⟨A0,n0,c0,A1,n1,c1,A2,n2,c2,A3,n3,c3,A4,n4,c4,A5,n5,c5⟩) HQ0.o;go_enter Tryz.func100,Tryz.ntmps100
 go_wp2_with fail
 generalize w.alloc (.cells #[.slice A0 n0 c0,.slice A1 n1 c1,.slice A2 n2 c2,.slice A3 n3 c3,.slice A4 n4 c4,.slice A5 n5 c5] 29)=w1 at *;clear y0 y1 y2 y3 y4 y5 nf nlt;refine (edges_any ⟨A0,n0,c0,A1,n1,c1,A2,n2,c2,A3,n3,c3,A4,n4,c4,A5,n5,c5⟩ x HOK.o false w1 HR.o).mono ?_;rintro e w2 ⟨hb,v6,v7,rfl,ho⟩;have HB2:=lH (HB0.o.tm hb);have HQ2:=lH (HQ0.o.bl hb);obtain ⟨A,c,rfl,hE⟩:=rdE_own ho;have HE:=lH hE;clear hb ho hE;obtain ⟨y0,y1,y2,y3,y4,y5,nf,nlt⟩:=net_box (h:=⟨A0,n0,c0,A1,n1,c1,A2,n2,c2,A3,n3,c3,A4,n4,c4,A5,n5,c5⟩) HQ2.o;have HSL:=lH (swE_ok HOK.o false).2;have HSO:Hid (∀ p∈swE x false,p.1<n0∧p.2<n0):=lH (by have h:=(swE_ok HOK.o false).1;rw [HN0.o] at h;exact h);have HBE:Hid (partsR n0 (swE x false)=busR x):=lH (by unfold busR;rw [HN0.o]);generalize swE x false=es at *
 go_wp2_with fail
 clear y0 y1 y2 y3 y4 y5 nf nlt;refine (comp_any A c n0 es w2 HE.o HSO.o hn0 (by have:=HSL.o;omega)).mono ?_;rintro e w3 ⟨hb,g,rfl,hg,hblk⟩;have HB3:=lH (HB2.o.tm hb);have HG:=lH (zI_ HB2.o.size hg);have HBL:=lH hblk;clear hb hg hblk
 go_wp2_with fail
 go_ret;exact HP.o _ _ ⟨HB3.o,g,rfl,HG.o,by rw [←HBE.o];exact HBL.o⟩
def busAt (x:Net) (s:ByteArray):Nat:=((busR x).getD (ndIdx x.nodes s) 0).toNat
def busN (x:Net):Nat:=(topR (busR x)).toNat
def brE (x:Net):List (Nat×Nat):=x.brs.map fun b=>(busAt x b.fr,busAt x b.to)
def islR (x:Net):List Int:=partsR (busN x) (brE x)
theorem busN_ok {x:Net} (ok:NetOk x):(busN x:Int)=topR (busR x)∧busN x≤x.nodes.length:=by
 obtain ⟨h1,h2,h3⟩:=topR_ok (busR x);have h4:=h3 x.nodes.length (by omega) fun b hb=>((busR_ok ok).2 b hb).2;unfold busN;omega
theorem busAt_ok {x:Net} (ok:NetOk x) {s:ByteArray} (hs:s∈x.nodes):(busR x).getD (ndIdx x.nodes s) 0=(busAt x s:Int)∧busAt x s<busN x∧ndIdx x.nodes s<(busR x).length:=by
 have hi:=(ndIdx_ok hs).2;rw [←(busR_ok ok).1] at hi;have hm:(busR x).getD (ndIdx x.nodes s) 0∈busR x:=by rw [zD_,zA_ hi];exact List.getElem_mem hi
 have h1:=(busR_ok ok).2 _ hm;have h2:=(topR_ok (busR x)).2.1 _ hm;have h3:=(busN_ok ok).1;refine ⟨?_,?_,hi⟩<;>unfold busAt<;>omega
theorem brE_ok {x:Net} (ok:NetOk x):(∀ p∈brE x,p.1<busN x∧p.2<busN x)∧(brE x).length≤24:=by
 refine ⟨fun p hp=>?_,by unfold brE;rw [zG_];exact ok.l2⟩;obtain ⟨b,hb,rfl⟩:=List.mem_map.1 hp;exact ⟨(busAt_ok ok (ok.br b hb).1).2.1,(busAt_ok ok (ok.br b hb).2.1).2.1⟩
theorem take_map' {α β:Type} (f:α→β) {l:List α} {k:Nat} {x:α} (h:l[k]?=some x):(l.take (k+1)).map f=(l.take k).map f++[f x]:=by
 rw [List.take_add_one,h,List.map_append];rfl
theorem take_fold' {l:List Int} {k:Nat} {x:Int} (h:l[k]?=some x):topR (l.take (k+1))=max (topR (l.take k)) (x+1):=by
 unfold topR;rw [List.take_add_one,h,List.foldl_append];rfl
theorem intsGet {l:List Int} {g i:Nat} {w:World} (h:Blk w g 3 (ints l).toArray) {x:Int} (hx:l[i]?=some x):w.cell? ⟨g,i,none⟩=some (.int .i64 x):=by
 rw [h.cell,List.getElem?_toArray];unfold ints;rw [zM_,hx];rfl
def TopP (x:Net) (n0:Nat) (w:World) (e:Ending) (w':World):Prop:=
 Below w.heap.size w w'∧∃ g1 g2:Nat,e=.returned (.agg #[.slice (some ⟨g1,0,none⟩) n0 n0,.slice (some ⟨g2,0,none⟩) (busN x) (busN x)])∧w.heap.size≤g1∧w.heap.size≤g2∧Blk w' g1 3 (ints (busR x)).toArray∧Blk w' g2 3 (ints (islR x)).toArray
theorem topP_of (x:Net) (n0:Nat) (w:World) (e:Ending) (w':World) (h:Below w.heap.size w w'∧∃ g1 g2:Nat,e=.returned (.agg #[.slice (some ⟨g1,0,none⟩) n0 n0,.slice (some ⟨g2,0,none⟩) (busN x) (busN x)])∧w.heap.size≤g1∧w.heap.size≤g2∧Blk w' g1 3 (ints (busR x)).toArray∧Blk w' g2 3 (ints (islR x)).toArray):TopP x n0 w e w':=h
theorem get_any (h:NetH) (x:Net) (ok:NetOk x) (w:World) (hR:RdNet w w.heap.size h x) :
    Calls Tryz.prog 59 #[.agg h.cells] w (TopP x h.n0 w):=by
 obtain ⟨A0,n0,c0,A1,n1,c1,A2,n2,c2,A3,n3,c3,A4,n4,c4,A5,n5,c5⟩:=h;dsimp only [NetH.cells] at *;have HOK:=lH ok;have HP:=lH (topP_of x n0 w);obtain ⟨i0,hi0,hi1,hi2,hi3⟩:=info_parts infoP2;have HI0:=lH hi0;have HI1:=lH hi1;have HI2:=lH hi2;have HI3:=lH hi3;have HB0:Hid (Below w.heap.size w ((w.alloc (.cells #[.slice A0 n0 c0,.slice A1 n1 c1,.slice A2 n2 c2,.slice A3 n3 c3,.slice A4 n4 c4,.slice A5 n5 c5] 29)).alloc (.cells #[.slice none 0 0,.slice none 0 0] 50))):=lH ((bA).alloc (by simp) _);have HQ0:Hid (Blk ((w.alloc (.cells #[.slice A0 n0 c0,.slice A1 n1 c1,.slice A2 n2 c2,.slice A3 n3 c3,.slice A4 n4 c4,.slice A5 n5 c5] 29)).alloc (.cells #[.slice none 0 0,.slice none 0 0] 50)) w.heap.size 29 #[.slice A0 n0 c0,.slice A1 n1 c1,.slice A2 n2 c2,.slice A3 n3 c3,.slice A4 n4 c4,.slice A5 n5 c5]):=lH ((Blk.new w _ _).alloc _)
 have HT0:Hid (Blk ((w.alloc (.cells #[.slice A0 n0 c0,.slice A1 n1 c1,.slice A2 n2 c2,.slice A3 n3 c3,.slice A4 n4 c4,.slice A5 n5 c5] 29)).alloc (.cells #[.slice none 0 0,.slice none 0 0] 50)) (w.heap.size+1) 50 #[.slice none 0 0,.slice none 0 0]):=lH (Blk.new_ (by simp));have HR:=lH (hR.up HB0.o);have HN0:Hid (x.nodes.length=n0):=lH hR.r0.1;have HN2:Hid (x.brs.length=n2):=lH hR.r2.1;have hn0:n0≤24:=by have:=ok.l0;have:=HN0.o;omega
 have hn2:n2≤24:=by have:=ok.l2;have:=HN2.o;omega
 have hn63:n0≤9223372036854775807:=by omega
 have HS0:Hid (w.heap.size+2≤((w.alloc (.cells #[.slice A0 n0 c0,.slice A1 n1 c1,.slice A2 n2 c2,.slice A3 n3 c3,.slice A4 n4 c4,.slice A5 n5 c5] 29)).alloc (.cells #[.slice none 0 0,.slice none 0 0] 50)).heap.size):=lH (by simp);clear hi0 hi1 hi2 hi3 ok hR;obtain ⟨y0,y1,y2,y3,y4,y5,nf,nlt⟩:=net_box (h:=⟨A0,n0,c0,A1,n1,c1,A2,n2,c2,A3,n3,c3,A4,n4,c4,A5,n5,c5⟩) HQ0.o;go_enter Tryz.func59,Tryz.ntmps59
 go_wp2_with fail
 generalize (w.alloc (.cells #[.slice A0 n0 c0,.slice A1 n1 c1,.slice A2 n2 c2,.slice A3 n3 c3,.slice A4 n4 c4,.slice A5 n5 c5] 29)).alloc (.cells #[.slice none 0 0,.slice none 0 0] 50)=w1 at *;clear y0 y1 y2 y3 y4 y5 nf nlt;refine (buses_any ⟨A0,n0,c0,A1,n1,c1,A2,n2,c2,A3,n3,c3,A4,n4,c4,A5,n5,c5⟩ x HOK.o w1 HR.o).mono ?_;rintro e w2 ⟨hb,gb,rfl,hg,hblk⟩;dsimp only;have hgs:w.heap.size+2≤gb:=zI_ HS0.o hg;have HB2:=lH ((HB0.o.tm hb).alloc (by have:=hb.size;have:=HS0.o;omega) (.cells #[.slice (some ⟨gb,0,none⟩) n0 n0,.slice none 0 0] 50));have HQ2:=lH ((HQ0.o.bl hb).alloc (.cells #[.slice (some ⟨gb,0,none⟩) n0 n0,.slice none 0 0] 50));have HT2:=lH ((HT0.o.bl hb).alloc (.cells #[.slice (some ⟨gb,0,none⟩) n0 n0,.slice none 0 0] 50));have HG2:=lH (hblk.alloc (.cells #[.slice (some ⟨gb,0,none⟩) n0 n0,.slice none 0 0] 50))
 have HX2:Hid (Blk (w2.alloc (.cells #[.slice (some ⟨gb,0,none⟩) n0 n0,.slice none 0 0] 50)) w2.heap.size 50 #[.slice (some ⟨gb,0,none⟩) n0 n0,.slice none 0 0]):=lH (Blk.new w2 _ _);have hgb:gb<w2.heap.size:=hblk.lt;have HR4:Hid (RdNet (w2.alloc (.cells #[.slice (some ⟨gb,0,none⟩) n0 n0,.slice none 0 0] 50)) (w2.heap.size+1) ⟨A0,n0,c0,A1,n1,c1,A2,n2,c2,A3,n3,c3,A4,n4,c4,A5,n5,c5⟩ x):=lH (((HR.o.up hb).below (bA) lR).more (by omega));have hwt:w.heap.size+2≤w2.heap.size:=by omega
 have t0':=HX2.o.cell 0;clear hb hg hblk HT0 HQ0 HB0 HS0
 go_wp2_with fail
 have HTB:Hid (w2.heap.size<(w2.alloc (.cells #[.slice (some ⟨gb,0,none⟩) n0 n0,.slice none 0 0] 50)).heap.size):=lH (by simp);generalize w2.alloc (.cells #[.slice (some ⟨gb,0,none⟩) n0 n0,.slice none 0 0] 50)=w3 at *;generalize w2.heap.size=tb at *;have hbl:=lH (busR_ok HOK.o).1;have HBLE:Hid ((busR x).length=n0):=lH (hbl.out.trans HN0.o)
 go_loop [4,16] (fun v4 v16=>∃ k:Nat,k≤n0∧v16=.int .i64 k∧v4=.int .i64 (topR ((busR x).take k))) (fun _ v16=>n0-(intOf v16).toNat)
 case atStart=>exact ⟨0,by omega,rfl,rfl⟩
 case round=>
  obtain ⟨k,hk,rfl,rfl⟩:=hrel
  by_cases hlt:k<n0
  ·obtain ⟨b,hb⟩:∃ b,(busR x)[k]?=some b:=zX_ (by have:=HBLE.o;omega)
   have hc:=intsGet HG2.o hb;have HTK:=lH (take_fold' hb);have hbd:=(busR_ok HOK.o).2 b (zC_ hb);have hb1:=hbd.1;have hb2:b≤24:=by have:=hbd.2;have:=HN0.o;omega
   have ht0:=(topR_ok ((busR x).take k)).1;clear hb hbd;generalize topR ((busR x).take k)=tk at *;have hkI:(k:Int)<(n0:Int):=by omega
   go_wp2_with fail
   go_round
   case rel=>exact ⟨k+1,by omega,by go_num,by rw [HTK.o];first | done | (congr 1;split<;>omega)⟩
   case measure=>simp [intOf];omega
  ·have hkk:n0=k:=by omega
   subst hkk;have HTOP:Hid (topR ((busR x).take n0)=(busN x:Int)):=lH (by rw [zH_ (by have:=HBLE.o;omega)];exact (busN_ok HOK.o).1.symm);have hbn:busN x≤24:=by have:=(busN_ok HOK.o).2;have:=HN0.o;omega
   rw [HTOP.o];obtain ⟨y0,y1,y2,y3,y4,y5,nf,nlt⟩:=net_box (h:=⟨A0,n0,c0,A1,n1,c1,A2,n2,c2,A3,n3,c3,A4,n4,c4,A5,n5,c5⟩) HQ2.o;obtain ⟨w4,hw4⟩:∃ w4:World,w4=w3:=⟨_,rfl⟩;have HQ2:Hid (Blk w4 w.heap.size 29 #[.slice A0 n0 c0,.slice A1 n1 c1,.slice A2 n2 c2,.slice A3 n3 c3,.slice A4 n4 c4,.slice A5 n5 c5]):=lH (by rw [hw4];exact HQ2.o);have HB2:Hid (Below w.heap.size w w4):=lH (by rw [hw4];exact HB2.o);have HT2:Hid (Blk w4 (w.heap.size+1) 50 #[.slice none 0 0,.slice none 0 0]):=lH (by rw [hw4];exact HT2.o);have HG2:Hid (Blk w4 gb 3 (ints (busR x)).toArray):=lH (by rw [hw4];exact HG2.o);have HX2:Hid (Blk w4 tb 50 #[.slice (some ⟨gb,0,none⟩) n0 n0,.slice none 0 0]):=lH (by rw [hw4];exact HX2.o);have HRF:Hid (RdNet w4 (tb+1) ⟨A0,n0,c0,A1,n1,c1,A2,n2,c2,A3,n3,c3,A4,n4,c4,A5,n5,c5⟩ x):=lH (by rw [hw4];exact HR4.o);have HLO:Hid (Below (tb+1) w4 w3):=lH (by rw [hw4];exact bR)
   have HSZ:Hid (tb+1≤w3.heap.size):=lH (by have:=HTB.o;omega);clear hw4 hlt t0'
   go_wp2_with fail
   clear y0 y1 y2 y3 y4 y5 nf nlt
   go_loopw [7,28] (fun v7 i wr=>∃ k:Nat,k≤n2∧i=.int .i64 k∧Below (tb+1) w4 wr∧tb+1≤wr.heap.size∧wr.ownsRow (tb+1) 166 2 v7 k (((x.brs.take k).map fun b=>(busAt x b.fr,busAt x b.to)).flatMap edC)) (fun _ i _=>n2-(intOf i).toNat)
   case atStart=>exact ⟨0,by omega,rfl,HLO.o,HSZ.o,World.ownsRow_nil _ _ _ _⟩
   case round=>
    clear HLO HSZ;obtain ⟨k,hk,rfl,hlo,hsz,hown⟩:=hrel;have HLO:=lH hlo;have HOW:=lH hown;have HQ:=lH (HQ2.o.below hlo (by omega));obtain ⟨y0,y1,y2,y3,y4,y5,nf,nlt⟩:=net_box (h:=⟨A0,n0,c0,A1,n1,c1,A2,n2,c2,A3,n3,c3,A4,n4,c4,A5,n5,c5⟩) HQ.o;clear hlo hown
    by_cases hlt:k<n2
    ·obtain ⟨z,hz⟩:∃ z,x.brs[k]?=some z:=zX_ (by have:=HN2.o;omega)
     have hrw:=HRF.o.below HLO.o lR;obtain ⟨bz,oz,hA,hbz⟩:=hrw.r2.form (by dsimp only;omega);dsimp only at hA;subst hA;obtain ⟨e0,e1,e2,e3,e4,e5,e6,e7,e8⟩:=hrw.r2.at_ hz;have HRN:=lH hrw.r0;have HZS:=lH (HOK.o.br z (zC_ hz));have HZ:=lH (take_map' (fun b:Br=>(busAt x b.fr,busAt x b.to)) hz);have HZL:Hid (k≤1000):=lH (by omega);have HEL:Hid (((x.brs.take k).map fun b:Br=>(busAt x b.fr,busAt x b.to)).length=k):=lH (by simp;have:=HN2.o;omega);have HWB:=lH ((Below.refl wr.heap.size wr).alloc lR (.cells #[.string z.name,.string z.fr,.string z.to,.int .i64 z.x,.int .i64 z.tap,.int .i64 z.shift,.int .i64 z.limit,.int .i64 z.short,.int .i64 z.hold] 54));have HO:=lH (own_up HOW.o HWB.o);have HQB:=lH (HQ.o.below HWB.o (by omega));have HXB:=lH ((HX2.o.below HLO.o (by omega)).below HWB.o (by omega));have HGB:=lH ((HG2.o.below HLO.o (by omega)).below HWB.o (by omega))
     have HLB:=lH (HLO.o.alloc hsz (.cells #[.string z.name,.string z.fr,.string z.to,.int .i64 z.x,.int .i64 z.tap,.int .i64 z.shift,.int .i64 z.limit,.int .i64 z.short,.int .i64 z.hold] 54));have HBX:Hid (Blk (wr.alloc (.cells #[.string z.name,.string z.fr,.string z.to,.int .i64 z.x,.int .i64 z.tap,.int .i64 z.shift,.int .i64 z.limit,.int .i64 z.short,.int .i64 z.hold] 54)) wr.heap.size 54 #[.string z.name,.string z.fr,.string z.to,.int .i64 z.x,.int .i64 z.tap,.int .i64 z.shift,.int .i64 z.limit,.int .i64 z.short,.int .i64 z.hold]):=lH (Blk.new wr _ _)
     have HRN2:Hid (RdStr (wr.alloc (.cells #[.string z.name,.string z.fr,.string z.to,.int .i64 z.x,.int .i64 z.tap,.int .i64 z.shift,.int .i64 z.limit,.int .i64 z.short,.int .i64 z.hold] 54)) (wr.alloc (.cells #[.string z.name,.string z.fr,.string z.to,.int .i64 z.x,.int .i64 z.tap,.int .i64 z.shift,.int .i64 z.limit,.int .i64 z.short,.int .i64 z.hold] 54)).heap.size A0 n0 x.nodes):=lH ((HRN.o.below HWB.o (by omega)).more (by simp;omega));have hkI:(k:Int)<(n2:Int):=by omega
     clear hz hrw
     go_wp2_with fail
     have hzw:wr.heap.size<(wr.alloc (.cells #[.string z.name,.string z.fr,.string z.to,.int .i64 z.x,.int .i64 z.tap,.int .i64 z.shift,.int .i64 z.limit,.int .i64 z.short,.int .i64 z.hold] 54)).heap.size:=by simp
     have hv1:u7.ownBlock≠some w.heap.size:=fun e=>by have:=(HOW.o.lt _ e).1;omega
     have hv2:u7.ownBlock≠some wr.heap.size:=fun e=>by have:=(HOW.o.lt _ e).2;omega
     have hv3:u7.ownBlock≠some tb:=fun e=>by have:=(HOW.o.lt _ e).1;omega
     have hv4:u7.ownBlock≠some gb:=fun e=>by have:=(HOW.o.lt _ e).1;omega
     clear HWB HRN HOW HQ y0 y1 y2 y3 y4 y5 nf nlt e0 e1 e2 e3 e4 e5 e6 e7 e8;generalize hWW:wr.alloc (.cells #[.string z.name,.string z.fr,.string z.to,.int .i64 z.x,.int .i64 z.tap,.int .i64 z.shift,.int .i64 z.limit,.int .i64 z.short,.int .i64 z.hold] 54)=W at *;generalize hzb:wr.heap.size=zb at *;have q0:W.cell? ⟨w.heap.size,0,none⟩=some (.slice A0 n0 c0):=HQB.o.cell 0;have t0:W.cell? ⟨tb,0,none⟩=some (.slice (some ⟨gb,0,none⟩) n0 n0):=HXB.o.cell 0;have b1:W.cell? ⟨zb,1,none⟩=some (.string z.fr):=HBX.o.cell 1;have b2:W.cell? ⟨zb,2,none⟩=some (.string z.to):=HBX.o.cell 2;have hsa:z.fr∈x.nodes:=HZS.o.1;have hsb:z.to∈x.nodes:=HZS.o.2.1;have cf:W.cell? ⟨gb,ndIdx x.nodes z.fr,none⟩=some (.int .i64 (busAt x z.fr)):=by rw [←(busAt_ok HOK.o hsa).1];exact set_get HGB.o (busAt_ok HOK.o hsa).2.2
     have ct:W.cell? ⟨gb,ndIdx x.nodes z.to,none⟩=some (.int .i64 (busAt x z.to)):=by rw [←(busAt_ok HOK.o hsb).1];exact set_get HGB.o (busAt_ok HOK.o hsb).2.2
     have hif:ndIdx x.nodes z.fr<n0:=by have:=(busAt_ok HOK.o hsa).2.2;have:=HBLE.o;omega
     have hit:ndIdx x.nodes z.to<n0:=by have:=(busAt_ok HOK.o hsb).2.2;have:=HBLE.o;omega
     have hifI:(ndIdx x.nodes z.fr:Int)<(n0:Int):=by omega
     have hitI:(ndIdx x.nodes z.to:Int)<(n0:Int):=by omega
     generalize hE0:((x.brs.take k).map fun b:Br=>(busAt x b.fr,busAt x b.to))=E0 at *;have HEE:=lH hE0;have hbase:tb+1≤W.heap.size:=by omega
     clear hE0 hWW hzb;generalize u7=v7 at *;refine wp_region_last (S:=fun w'=>w'.cell? ⟨w.heap.size,0,none⟩=some (.slice A0 n0 c0)∧w'.cell? ⟨tb,0,none⟩=some (.slice (some ⟨gb,0,none⟩) n0 n0)∧w'.cell? ⟨zb,1,none⟩=some (.string z.fr)∧w'.cell? ⟨zb,2,none⟩=some (.string z.to)∧w'.cell? ⟨gb,ndIdx x.nodes z.fr,none⟩=some (.int .i64 (busAt x z.fr))∧w'.cell? ⟨gb,ndIdx x.nodes z.to,none⟩=some (.int .i64 (busAt x z.to))) 22 _ (by kernel_rfl) (by kernel_rfl) rfl ⟨q0,t0,b1,b2,cf,ct⟩ (fun hHeld=>?_);simp only [zK_,List.take_zero];refine takeH 0 (v:=?_) rfl (by kernel_rfl) (fun _ _ _ h=>h) (by rfl) ?_ hHeld ?_;rotate_left 1
     ·intro w' hSw;(try dsimp only at hSw);go_simp<;>with_reducible rfl
     try simp only [Act.put,sA_,sB_,sC_]
     refine takeH 1 (v:=?_) rfl (by kernel_rfl) (fun _ _ _ h=>h) (by rfl) ?_ hHeld ?_;rotate_left 1
     ·intro w' hSw;(try dsimp only at hSw);go_simp<;>with_reducible rfl
     try simp only [Act.put,sA_,sB_,sC_]
     refine takeH 2 (v:=?_) rfl (by kernel_rfl) (fun _ _ _ h=>h) (by rfl) ?_ hHeld ?_;rotate_left 1
     ·intro w' hSw;(try dsimp only at hSw);go_simp<;>with_reducible rfl
     try simp only [Act.put,sA_,sB_,sC_]
     refine takeH 3 (v:=?_) rfl (by kernel_rfl) (fun _ _ _ h=>h) (by rfl) ?_ hHeld ?_;rotate_left 1
     ·intro w' hSw;(try dsimp only at hSw);go_simp<;>with_reducible rfl
     try simp only [Act.put,sA_,sB_,sC_]
     refine takeH 4 (v:=?_) rfl (by kernel_rfl) (fun _ _ _ h=>h) (by rfl) ?_ hHeld ?_;rotate_left 1
     ·intro w' hSw;(try dsimp only at hSw);go_simp<;>with_reducible rfl
     try simp only [Act.put,sA_,sB_,sC_]
     refine takeH 5 (v:=?_) rfl (by kernel_rfl) (fun _ _ _ h=>h) (by rfl) ?_ hHeld ?_;rotate_left 1
     ·intro w' hSw;(try dsimp only at hSw);go_simp<;>with_reducible rfl
     try simp only [Act.put,sA_,sB_,sC_]
     refine takeH 6 (v:=?_) rfl (by kernel_rfl) (fun _ _ _ h=>h) (by rfl) ?_ hHeld ?_;rotate_left 1
     ·intro w' hSw;(try dsimp only at hSw);go_simp<;>with_reducible rfl
     try simp only [Act.put,sA_,sB_,sC_]
     refine takeH 10 (v:=?_) rfl (by kernel_rfl) (fun _ _ _ h=>h) (by rfl) ?_ hHeld ?_;rotate_left 1
     ·intro w' hSw;(try dsimp only at hSw);go_simp<;>with_reducible rfl
     try simp only [Act.put,sA_,sB_,sC_]
     refine takeH 11 (v:=?_) rfl (by kernel_rfl) (fun _ _ _ h=>h) (by rfl) ?_ hHeld ?_;rotate_left 1
     ·intro w' hSw;(try dsimp only at hSw);go_simp<;>with_reducible rfl
     try simp only [Act.put,sA_,sB_,sC_]
     refine takeH 12 (v:=?_) rfl (by kernel_rfl) (fun _ _ _ h=>h) (by rfl) ?_ hHeld ?_;rotate_left 1
     ·intro w' hSw;(try dsimp only at hSw);go_simp<;>with_reducible rfl
     try simp only [Act.put,sA_,sB_,sC_]
     refine takeH 13 (v:=?_) rfl (by kernel_rfl) (fun _ _ _ h=>h) (by rfl) ?_ hHeld ?_;rotate_left 1
     ·intro w' hSw;(try dsimp only at hSw);go_simp<;>with_reducible rfl
     try simp only [Act.put,sA_,sB_,sC_]
     refine takeH 14 (v:=?_) rfl (by kernel_rfl) (fun _ _ _ h=>h) (by rfl) ?_ hHeld ?_;rotate_left 1
     ·intro w' hSw;(try dsimp only at hSw);go_simp<;>with_reducible rfl
     try simp only [Act.put,sA_,sB_,sC_]
     refine takeH 15 (v:=?_) rfl (by kernel_rfl) (fun _ _ _ h=>h) (by rfl) ?_ hHeld ?_;rotate_left 1
     ·intro w' hSw;(try dsimp only at hSw);go_simp<;>with_reducible rfl
     try simp only [Act.put,sA_,sB_,sC_]
     refine stepH 7 (by kernel_rfl) rfl (fun K hK=>?_);go_simp;refine (index_str A0 n0 c0 x.nodes z.fr W.drew HRN2.o hn63).mono ?_;rw [nodeIx hsa];rintro e w' ⟨rfl,rfl⟩;go_simp;refine hK.out _ _ ?_ (fun hHeld=>?_)
     ·exact hHeld
     clear hK K
     try simp only [Act.put,sA_,sB_,sC_]
     refine takeH 8 (v:=?_) rfl (by kernel_rfl) (fun _ _ _ h=>h) (by rfl) ?_ hHeld ?_;rotate_left 1
     ·intro w' hSw;(try dsimp only at hSw);go_simp<;>with_reducible rfl
     try simp only [Act.put,sA_,sB_,sC_]
     refine takeH 9 (v:=?_) rfl (by kernel_rfl) (fun _ _ _ h=>h) (by rfl) ?_ hHeld ?_;rotate_left 1
     ·intro w' hSw;(try dsimp only at hSw);go_simp<;>with_reducible rfl
     try simp only [Act.put,sA_,sB_,sC_]
     refine stepH 16 (by kernel_rfl) rfl (fun K hK=>?_);go_simp;refine (index_str A0 n0 c0 x.nodes z.to W.drew HRN2.o hn63).mono ?_;rw [nodeIx hsb];rintro e w' ⟨rfl,rfl⟩;go_simp;refine hK.out _ _ ?_ (fun hHeld=>?_)
     ·exact hHeld
     clear hK K
     try simp only [Act.put,sA_,sB_,sC_]
     refine takeH 17 (v:=?_) rfl (by kernel_rfl) (fun _ _ _ h=>h) (by rfl) ?_ hHeld ?_;rotate_left 1
     ·intro w' hSw;(try dsimp only at hSw);go_simp<;>with_reducible rfl
     try simp only [Act.put,sA_,sB_,sC_]
     refine takeH 18 (v:=?_) rfl (by kernel_rfl) (fun _ _ _ h=>h) (by rfl) ?_ hHeld ?_;rotate_left 1
     ·intro w' hSw;(try dsimp only at hSw);go_simp<;>with_reducible rfl
     try simp only [Act.put,sA_,sB_,sC_]
     refine takeH 19 (v:=?_) rfl (by kernel_rfl) (fun _ _ _ h=>h) (by rfl) ?_ hHeld ?_;rotate_left 1
     ·intro w' hSw;(try dsimp only at hSw);go_simp<;>with_reducible rfl
     try simp only [Act.put,sA_,sB_,sC_]
     refine stepH 20 (by kernel_rfl) rfl (fun K hK=>?_);go_simp;refine hK.out _ _ ?_ (fun hHeld=>?_)
     ·exact ⟨cellAl q0 (by omega),cellAl t0 (by omega),cellAl b1 (by omega),cellAl b2 (by omega),cellAl cf (by omega),cellAl ct (by omega)⟩
     clear hK K
     try simp only [Act.put,sA_,sB_,sC_]
     refine stepH 21 (by kernel_rfl) rfl (fun K hK=>?_);refine step_append_lies _ (by rfl) _ _ _ (by rfl) (tb+1) 166 i0 _ 2 16 Tryz.underlying165 HI0.o HI1.o HI2.o HI3.o rfl (by omega) v7 _ _ (by rfl) ((HO.o.alloc _).drew) ⟨W.heap.size,0,none⟩ 1 1 (edC (busAt x z.fr,busAt x z.to)) (by rfl) (by rfl) (pr_news W (busAt x z.fr,busAt x z.to) 166) (pr_one _) (by omega) (by have:=HZL.o;simp only [maxLen];omega) (by have:=HZL.o;omega) (by simp;omega) (W.heap.size+1) (by simp) ?_;intro gg cap w1 hown1 hgrow hat hlt1;refine hK.out _ _ ?_ (fun hHeld=>?_)
     ·exact ⟨(hgrow.cell_far ⟨w.heap.size,0,none⟩ (by simp;omega) (Ne.symm hv1)).trans (cellAl q0 (by omega)),(hgrow.cell_far ⟨tb,0,none⟩ (by simp;omega) (Ne.symm hv3)).trans (cellAl t0 (by omega)),(hgrow.cell_far ⟨zb,1,none⟩ (by simp;omega) (Ne.symm hv2)).trans (cellAl b1 (by omega)),(hgrow.cell_far ⟨zb,2,none⟩ (by simp;omega) (Ne.symm hv2)).trans (cellAl b2 (by omega)),(hgrow.cell_far ⟨gb,ndIdx x.nodes z.fr,none⟩ (by simp;omega) (Ne.symm hv4)).trans (cellAl cf (by omega)),(hgrow.cell_far ⟨gb,ndIdx x.nodes z.to,none⟩ (by simp;omega) (Ne.symm hv4)).trans (cellAl ct (by omega))⟩
     clear hK K
     try simp only [Act.put,sA_,sB_,sC_]
     refine wpAnyH_done (by kernel_rfl) ?_ _;refine lastQ_go (by rfl) ?_;have HS5:Hid (w1.ownsRow (tb+1) 166 2 (.slice (some ⟨gg,0,none⟩) (k+1) cap) (k+1) (((x.brs.take (k+1)).map fun b=>(busAt x b.fr,busAt x b.to)).flatMap edC)):=lH (by rw [HZ.o,List.flatMap_append];simpa [edC] using hown1);have HB5:Hid (Below (tb+1) w4 w1):=lH (HLB.o.trans ((below_drew (bR.alloc hbase _)).grown hgrow (by simp;omega) (fun k hk=>(HO.o.lt k hk).1)));clear hgrow hat hown1 hHeld;go_simp
     go_wp2_with fail
     go_roundw
     case rel=>exact ⟨k+1,by omega,by go_num,HB5.o,by have:=HB5.o.size;have:=HX2.o.lt;omega,HS5.o⟩
     case measure=>simp [intOf];omega
    ·have hkk:n2=k:=by omega
     subst hkk;have HO2:Hid (wr.ownsRow (tb+1) 166 2 u7 (brE x).length ((brE x).flatMap edC)):=lH (by
      have h:=HOW.o;rw [zH_ (by have:=HN2.o;omega)] at h;have e:(brE x).length=n2:=by unfold brE;rw [zG_];exact HN2.o
      rw [e];exact h)
     obtain ⟨A,c,hu7,hE⟩:=rdE_own HO2.o;subst hu7;have HE:=lH hE;have HT3:=lH (HT2.o.below HLO.o (by omega));have HX3:=lH (HX2.o.below HLO.o (by omega));have HG3:=lH (HG2.o.below HLO.o (by omega));have HB3:=lH (HB2.o.trans (HLO.o.mono (by omega)));have HBO:=lH (brE_ok HOK.o);have HIS:Hid (islR x=partsR (busN x) (brE x)):=lH rfl;clear HO2 HOW hE;generalize brE x=es at *
     go_wp2_with fail
     clear y0 y1 y2 y3 y4 y5 nf nlt;refine (comp_any A c (busN x) es wr HE.o HBO.o.1 hbn (by have:=HBO.o.2;omega)).mono ?_;rintro e w5 ⟨hb,g2,rfl,hg,hblk⟩;have HT5:=lH (HT3.o.bl hb);have HX5:=lH (HX3.o.bl hb);have HG5:=lH (HG3.o.bl hb);have HB5:=lH (HB3.o.tm hb);have HBK:=lH hblk;have hg2:tb+1≤g2:=by omega
     have x0:=HX5.o.cell 0;have x1:=HX5.o.cell 1;have xf0:=HX5.o.frozen 0;have xf1:=HX5.o.frozen 1;have t0:=HT5.o.cell 0;have t1:=HT5.o.cell 1;have tf0:=HT5.o.frozen 0;have tf1:=HT5.o.frozen 1;have hlt5:=HX5.o.lt;have hltt:=HT5.o.lt;have hne:tb≠w.heap.size+1:=by omega
     have hne':w.heap.size+1≠tb:=by omega
     clear hb hg hblk
     go_wp2_with fail
     have HT9:Hid (Blk (((w5.setCell ⟨tb,1,none⟩ (.slice (some ⟨g2,0,none⟩) (busN x) (busN x))).setCell ⟨w.heap.size+1,0,none⟩ (.slice (some ⟨gb,0,none⟩) n0 n0)).setCell ⟨w.heap.size+1,1,none⟩ (.slice (some ⟨g2,0,none⟩) (busN x) (busN x))) (w.heap.size+1) 50 #[.slice (some ⟨gb,0,none⟩) n0 n0,.slice (some ⟨g2,0,none⟩) (busN x) (busN x)]):=lH (((HT5.o.far (by simp;omega) _).set_at (i:=0) _ (by simp;rfl)).set_at (i:=1) _ (by simp));have HB9:Hid (Below w.heap.size w (((w5.setCell ⟨tb,1,none⟩ (.slice (some ⟨g2,0,none⟩) (busN x) (busN x))).setCell ⟨w.heap.size+1,0,none⟩ (.slice (some ⟨gb,0,none⟩) n0 n0)).setCell ⟨w.heap.size+1,1,none⟩ (.slice (some ⟨g2,0,none⟩) (busN x) (busN x)))):=lH (((HB5.o.setCell (by simp;omega) _).setCell (by simp) _).setCell (by simp) _)
     have HG9:Hid (Blk (((w5.setCell ⟨tb,1,none⟩ (.slice (some ⟨g2,0,none⟩) (busN x) (busN x))).setCell ⟨w.heap.size+1,0,none⟩ (.slice (some ⟨gb,0,none⟩) n0 n0)).setCell ⟨w.heap.size+1,1,none⟩ (.slice (some ⟨g2,0,none⟩) (busN x) (busN x))) gb 3 (ints (busR x)).toArray):=lH (((HG5.o.far (by simp;omega) _).far (by simp;omega) _).far (by simp;omega) _);have HK9:Hid (Blk (((w5.setCell ⟨tb,1,none⟩ (.slice (some ⟨g2,0,none⟩) (busN x) (busN x))).setCell ⟨w.heap.size+1,0,none⟩ (.slice (some ⟨gb,0,none⟩) n0 n0)).setCell ⟨w.heap.size+1,1,none⟩ (.slice (some ⟨g2,0,none⟩) (busN x) (busN x))) g2 3 (ints (partsR (busN x) es)).toArray):=lH (((HBK.o.far (by simp;omega) _).far (by simp;omega) _).far (by simp;omega) _)
     generalize ((w5.setCell ⟨tb,1,none⟩ (.slice (some ⟨g2,0,none⟩) (busN x) (busN x))).setCell ⟨w.heap.size+1,0,none⟩ (.slice (some ⟨gb,0,none⟩) n0 n0)).setCell ⟨w.heap.size+1,1,none⟩ (.slice (some ⟨g2,0,none⟩) (busN x) (busN x))=w9 at *;have f0:=HT9.o.cell 0;have f1:=HT9.o.cell 1;refine bodyPost_ret (v:=.agg #[.slice (some ⟨gb,0,none⟩) n0 n0,.slice (some ⟨g2,0,none⟩) (busN x) (busN x)]) (by simp [results,Tryz.results59,go_sem,f0,f1]) rfl ?_;exact HP.o _ _ ⟨HB9.o,gb,g2,rfl,by omega,by omega,HG9.o,by rw [HIS.o];exact HK9.o⟩
end
end Go.Proofs.YthgdchffeigkbaaGreatDoor
