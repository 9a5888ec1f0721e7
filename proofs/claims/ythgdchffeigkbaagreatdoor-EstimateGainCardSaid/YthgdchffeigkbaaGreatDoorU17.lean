import Derived.Test.YthgdchffeigkbaaGreatDoorU10
set_option linter.unusedVariables false
set_option linter.unusedSimpArgs false
namespace Go.Proofs.YthgdchffeigkbaaGreatDoor
set_option maxHeartbeats 8000000
set_option maxRecDepth 100000
section
open Go.ChangeShapes Go.WideShapes Go.ChangeAt Go.RowKit Go.Joins Go.Deep Go.Maps
attribute [local go_sem ↓] execOp_call_val
attribute [local go_sem] callVal_func setCell_drewN alloc_drewN sEq_walk
def Gn.bad (x:Gn):Bool:=outB x.least 0 100000 || outB x.most x.least 100000 || outB x.ramp 0 100000
def Sw.bad (x:Sw):Bool:=false
def Ld.bad (x:Ld):Bool:=outB x.demand 0 100000
def St.bad (x:St):Bool:=outB x.charge 0 100000 || outB x.discharge 0 100000 || outB x.capacity 0 100000
def ckList {α:Type} (f:List ByteArray→α→Int) (nm:α→ByteArray):List ByteArray→List α→Int×List ByteArray
 | seen,[]=>(0,seen)
 | seen,x::r=>if f seen x≠0 then (f seen x,seen) else ckList f nm (nm x::seen) r
def fNode (nodes:List ByteArray) (seen:List ByteArray) (x:ByteArray):Int:=devR nodes seen x []
def fSw (nodes:List ByteArray) (seen:List ByteArray) (x:Sw):Int:=if devR nodes seen x.name [x.a,x.b]≠0 then devR nodes seen x.name [x.a,x.b] else if x.bad then 4 else 0
def fBr (nodes:List ByteArray) (seen:List ByteArray) (x:Br):Int:=if devR nodes seen x.name [x.fr,x.to]≠0 then devR nodes seen x.name [x.fr,x.to] else x.ck
def fGn (nodes:List ByteArray) (seen:List ByteArray) (x:Gn):Int:=if devR nodes seen x.name [x.node]≠0 then devR nodes seen x.name [x.node] else if x.bad then 4 else 0
def fLd (nodes:List ByteArray) (seen:List ByteArray) (x:Ld):Int:=if devR nodes seen x.name [x.node]≠0 then devR nodes seen x.name [x.node] else if x.bad then 4 else 0
def fSt (nodes:List ByteArray) (seen:List ByteArray) (x:St):Int:=if devR nodes seen x.name [x.node]≠0 then devR nodes seen x.name [x.node] else if x.bad then 4 else 0
def ck5 (x:Net) (seen:List ByteArray):Int:=(ckList (fSt x.nodes) St.name seen x.sts).1
def ck4 (x:Net) (seen:List ByteArray):Int:=if (ckList (fLd x.nodes) Ld.name seen x.lds).1≠0 then (ckList (fLd x.nodes) Ld.name seen x.lds).1 else ck5 x (ckList (fLd x.nodes) Ld.name seen x.lds).2
def ck3 (x:Net) (seen:List ByteArray):Int:=if (ckList (fGn x.nodes) Gn.name seen x.gns).1≠0 then (ckList (fGn x.nodes) Gn.name seen x.gns).1 else ck4 x (ckList (fGn x.nodes) Gn.name seen x.gns).2
def ck2 (x:Net) (seen:List ByteArray):Int:=if (ckList (fBr x.nodes) Br.name seen x.brs).1≠0 then (ckList (fBr x.nodes) Br.name seen x.brs).1 else ck3 x (ckList (fBr x.nodes) Br.name seen x.brs).2
def ck1 (x:Net) (seen:List ByteArray):Int:=if (ckList (fSw x.nodes) Sw.name seen x.sws).1≠0 then (ckList (fSw x.nodes) Sw.name seen x.sws).1 else ck2 x (ckList (fSw x.nodes) Sw.name seen x.sws).2
def ck0 (x:Net):Int:=if (ckList (fNode x.nodes) id [] x.nodes).1≠0 then (ckList (fNode x.nodes) id [] x.nodes).1 else ck1 x (ckList (fNode x.nodes) id [] x.nodes).2
def netLarge (x:Net):Prop:=24<x.nodes.length∨32<x.sws.length∨24<x.brs.length∨10<x.gns.length∨12<x.lds.length∨4<x.sts.length
instance (x:Net):Decidable (netLarge x):=by unfold netLarge;infer_instance
def netCk (x:Net):Int:=if netLarge x then 2 else ck0 x
theorem ckList_bad {α:Type} {f:List ByteArray→α→Int} {nm:α→ByteArray} {seen:List ByteArray} {x:α} {r l:List α} {v:Int} (hl:l=x::r) (hf:f seen x=v) (h0:v≠0):(ckList f nm seen l).1=v:=by
 subst hl;unfold ckList;rw [if_pos (by rw [hf];exact h0),hf]
theorem ckList_ok {α:Type} {f:List ByteArray→α→Int} {nm:α→ByteArray} {seen:List ByteArray} {x:α} {r l:List α} (hl:l=x::r) (h0:f seen x=0):ckList f nm seen l=ckList f nm (nm x::seen) r:=by
 subst hl;show (if f seen x≠0 then _ else _)=_;rw [if_neg (by rw [h0];simp)]
structure Ck (w0 wr:World) (b:Nat) (A:Option Addr) (nn:Nat) (nodes:List ByteArray) (h:NetH) (x:Net) (seen:List ByteArray):Prop where
 gr:w0.grownBy wr (some b)
 sn:SeenM wr b seen.length seen
 rn:RdStr wr wr.heap.size A nn nodes
 net:RdNet wr wr.heap.size h x
theorem RdNet.mapped {w w':World} {b m:Nat} {h:NetH} {x:Net} {l:List ByteArray} (r:RdNet w w.heap.size h x) (hS:SeenM w b m l) (hg:w.grownBy w' (some b)):RdNet w' w'.heap.size h x:=
 ⟨r.r0.mapped hS hg lR hg.size,⟨r.r1.1,r.r1.2.mapped (by omega) hS hg lR hg.size⟩,⟨r.r2.1,r.r2.2.mapped (by omega) hS hg lR hg.size⟩,⟨r.r3.1,r.r3.2.mapped (by omega) hS hg lR hg.size⟩,
  ⟨r.r4.1,r.r4.2.mapped (by omega) hS hg lR hg.size⟩,⟨r.r5.1,r.r5.2.mapped (by omega) hS hg lR hg.size⟩,r.m0,r.m1,r.m2,r.m3,r.m4,r.m5,r.z0,r.z1,r.z2,r.z3,r.z4,r.z5⟩
theorem Ck.below {w0 w w':World} {b:Nat} {A:Option Addr} {nn:Nat} {nodes:List ByteArray} {h:NetH} {x:Net} {seen:List ByteArray} (c:Ck w0 w b A nn nodes h x seen) (hb:Below w.heap.size w w'):Ck w0 w' b A nn nodes h x seen:=
 ⟨only_trans c.gr (only_of_below hb _),c.sn.below hb,(c.rn.below hb lR).more hb.size,c.net.up hb⟩
theorem Ck.put {w0 w w':World} {b:Nat} {A:Option Addr} {nn:Nat} {nodes:List ByteArray} {h:NetH} {x:Net} {seen:List ByteArray} {s:ByteArray} (c:Ck w0 w b A nn nodes h x seen) (hg:w.grownBy w' (some b)) (hS:SeenM w' b (seen.length+1) (s::seen)):Ck w0 w' b A nn nodes h x (s::seen):=
 ⟨only_trans c.gr hg,hS,c.rn.mapped c.sn hg lR hg.size,c.net.mapped c.sn hg⟩
theorem below2 (w:World) (o1 o2:Obj):Below w.heap.size w ((w.alloc o1).alloc o2):=(bA).alloc (by simp) _
theorem ends_any (b:Nat) (A:Option Addr) (nn nc:Nat) (nodes:List ByteArray) (h:NetH) (x:Net) (seen0:List ByteArray) (w:World)
    (hC:Ck w w b A nn nodes h x seen0) (hnn:nn≤9223372036854775807) (hs0:seen0.length≤1000) (h3:h.n3≤10) (h4:h.n4≤12) (h5:h.n5≤4) (hnodes:x.nodes=nodes) :
    Calls Tryz.prog 99 #[.agg #[.map (some b),.slice A nn nc],.agg h.cells] w fun e w'=>e=.returned (.int .i64 (ck3 x seen0))∧w.grownBy w' (some b):=by
 obtain ⟨A0,m0,c0,A1,m1,c1,A2,m2,c2,A3,m3,c3,A4,m4,c4,A5,m5,c5⟩:=h;dsimp only [NetH.cells] at *;have hbl:=hC.sn.lt;have hC2:=hC.below (below2 w (.cells #[.map (some b),.slice A nn nc] 161) (.cells #[.slice A0 m0 c0,.slice A1 m1 c1,.slice A2 m2 c2,.slice A3 m3 c3,.slice A4 m4 c4,.slice A5 m5 c5] 29));have HC:=lH hC2;have HQ1:Hid (Blk ((w.alloc (.cells #[.map (some b),.slice A nn nc] 161)).alloc (.cells #[.slice A0 m0 c0,.slice A1 m1 c1,.slice A2 m2 c2,.slice A3 m3 c3,.slice A4 m4 c4,.slice A5 m5 c5] 29)) w.heap.size 161 #[.map (some b),.slice A nn nc]):=lH ((Blk.new w _ _).alloc _)
 have HQ2:Hid (Blk ((w.alloc (.cells #[.map (some b),.slice A nn nc] 161)).alloc (.cells #[.slice A0 m0 c0,.slice A1 m1 c1,.slice A2 m2 c2,.slice A3 m3 c3,.slice A4 m4 c4,.slice A5 m5 c5] 29)) (w.heap.size+1) 29 #[.slice A0 m0 c0,.slice A1 m1 c1,.slice A2 m2 c2,.slice A3 m3 c3,.slice A4 m4 c4,.slice A5 m5 c5]):=lH (Blk.new_ (by simp));have HNET:=lH hC2.net;obtain ⟨y0,y1,y2,y3,y4,y5,nf,nlt⟩:=net_box (h:=⟨A0,m0,c0,A1,m1,c1,A2,m2,c2,A3,m3,c3,A4,m4,c4,A5,m5,c5⟩) HQ2.o;have HND:=lH hnodes;clear hC hC2 hnodes;go_enter Tryz.func99,Tryz.ntmps99
 go_wp2_with fail
 have hlen3:Hid (x.gns.length=m3):=lH HNET.o.r3.1
 go_loopw [17] (fun i wr=>∃ (k:Nat) (seen3:List ByteArray),k≤m3∧i=.int .i64 k∧Ck w wr b A nn nodes ⟨A0,m0,c0,A1,m1,c1,A2,m2,c2,A3,m3,c3,A4,m4,c4,A5,m5,c5⟩ x seen3∧Blk wr w.heap.size 161 #[.map (some b),.slice A nn nc]∧Blk wr (w.heap.size+1) 29 #[.slice A0 m0 c0,.slice A1 m1 c1,.slice A2 m2 c2,.slice A3 m3 c3,.slice A4 m4 c4,.slice A5 m5 c5]∧seen3.length≤seen0.length+k∧ckList (fGn nodes) Gn.name seen0 x.gns=ckList (fGn nodes) Gn.name seen3 (x.gns.drop k)) (fun i _=>m3-(intOf i).toNat)
 case atStart=>exact ⟨0,seen0,by omega,rfl,HC.o,HQ1.o,HQ2.o,by omega,rfl⟩
 case round=>
  clear HC HQ1 HQ2 HNET;obtain ⟨k,seen3,hk,rfl,hC,hq1,hq2,hcnt,hgo⟩:=hrel;have HC:=lH hC;have HQ1:=lH hq1;have HQ2:=lH hq2;have HGO:=lH hgo;obtain ⟨g0,g1,gf,glt⟩:=check_box hq1;obtain ⟨y0,y1,y2,y3,y4,y5,nf,nlt⟩:=net_box (h:=⟨A0,m0,c0,A1,m1,c1,A2,m2,c2,A3,m3,c3,A4,m4,c4,A5,m5,c5⟩) hq2;have hbw:=hC.sn.lt;have HNET:=lH hC.net;clear hC hq1 hq2 hgo
  by_cases hlt:k<m3
  ·obtain ⟨z,hz⟩:∃ z,x.gns[k]?=some z:=zX_ (by have:=hlen3.out;omega)
   obtain ⟨bz,oz,hA,hbz⟩:=HC.o.net.r3.form (by dsimp only;omega);dsimp only at hA;subst hA;obtain ⟨e0,e1,e2,e3,e4⟩:=HC.o.net.r3.at_ hz;have hzn:=HC.o.net.z3 z (zC_ hz);have HZ:=lH (drop_cons hz);clear hz
   go_wp2_with fail
   have hB:=below2 wr (.cells #[.string z.name,.string z.node,.int .i64 z.least,.int .i64 z.most,.int .i64 z.ramp] 145) (.cells #[.string z.node] 9);have hE:RdStr ((wr.alloc (.cells #[.string z.name,.string z.node,.int .i64 z.least,.int .i64 z.most,.int .i64 z.ramp] 145)).alloc (.cells #[.string z.node] 9)) ((wr.alloc (.cells #[.string z.name,.string z.node,.int .i64 z.least,.int .i64 z.most,.int .i64 z.ramp] 145)).alloc (.cells #[.string z.node] 9)).heap.size (some ⟨wr.heap.size+1,0,none⟩) 1 [z.node]:=rdStr_lit (zs:=[z.node]) (Blk.new_ (by simp)) (by simp);have hC2:=HC.o.below hB;refine (device_any b _ A nn nc nodes seen3 z.name _ 1 1 [z.node] _ hC2.rn hnn hC2.sn (by omega) hzn hE (by omega)).mono ?_;generalize hR:devR nodes seen3 z.name [z.node]=r;rintro e w2 ⟨rfl,hg2,hS2⟩
   have hq3:Blk w2 wr.heap.size 145 #[.string z.name,.string z.node,.int .i64 z.least,.int .i64 z.most,.int .i64 z.ramp]:=Blk.grown ((Blk.new wr _ _).alloc _) hg2 (fun e=>by injection e;omega);have hq1:Blk w2 w.heap.size 161 #[.map (some b),.slice A nn nc]:=Blk.grown (HQ1.o.bl hB) hg2 (fun e=>by injection e;omega);have hq2:=Blk.grown (HQ2.o.bl hB) hg2 (fun e=>by injection e;omega);have HG2:=lH (only_trans hC2.gr hg2);have HS2:=lH hS2;have HC2:=lH hC2;have Hg2:=lH hg2;obtain ⟨f0,f1,f2,f3,f4,ff,flt⟩:=Gn.box hq3;have HQ1':=lH hq1;have HQ2':=lH hq2;have HRR:=lH hR;clear hB hE hC2 hg2 hS2 hq3 hq1 hq2 hR e0 e1 e2 e3 e4
   by_cases hr0:r=0
   ·subst hr0
    have HC3:=lH (HC2.o.put Hg2.o (HS2.o rfl));cases t0:outB z.least 0 100000 with
    | true=>
     have hf:fGn nodes seen3 z=4:=by unfold fGn Gn.bad;rw [HRR.o];simp [t0]
     have hr:(ckList (fGn nodes) Gn.name seen0 x.gns).1=4:=by rw [HGO.o];exact ckList_bad HZ.o hf (by omega)
     have HR4:=lH hr;clear hf hr
     go_wp2_with (first | (go_at_call 130;refine (npermitted_any _ _).mono ?_;rintro e w' ⟨rfl,rfl⟩) | (go_at_call 129;refine (nout_any _ _ _ _).mono ?_;rintro e w' ⟨rfl,rfl⟩))
     go_ret;exact ⟨ret_int (by unfold ck3;rw [HND.o,if_pos (by rw [HR4.o];omega),HR4.o]),HG2.o⟩
    | false=>
     cases t1:outB z.most z.least 100000 with
     | true=>
      have hf:fGn nodes seen3 z=4:=by unfold fGn Gn.bad;rw [HRR.o];simp [t0,t1]
      have hr:(ckList (fGn nodes) Gn.name seen0 x.gns).1=4:=by rw [HGO.o];exact ckList_bad HZ.o hf (by omega)
      have HR4:=lH hr;clear hf hr
      go_wp2_with (first | (go_at_call 130;refine (npermitted_any _ _).mono ?_;rintro e w' ⟨rfl,rfl⟩) | (go_at_call 129;refine (nout_any _ _ _ _).mono ?_;rintro e w' ⟨rfl,rfl⟩))
      go_ret;exact ⟨ret_int (by unfold ck3;rw [HND.o,if_pos (by rw [HR4.o];omega),HR4.o]),HG2.o⟩
     | false=>
      cases t2:outB z.ramp 0 100000 with
      | true=>
       have hf:fGn nodes seen3 z=4:=by unfold fGn Gn.bad;rw [HRR.o];simp [t0,t1,t2]
       have hr:(ckList (fGn nodes) Gn.name seen0 x.gns).1=4:=by rw [HGO.o];exact ckList_bad HZ.o hf (by omega)
       have HR4:=lH hr;clear hf hr
       go_wp2_with (first | (go_at_call 130;refine (npermitted_any _ _).mono ?_;rintro e w' ⟨rfl,rfl⟩) | (go_at_call 129;refine (nout_any _ _ _ _).mono ?_;rintro e w' ⟨rfl,rfl⟩))
       go_ret;exact ⟨ret_int (by unfold ck3;rw [HND.o,if_pos (by rw [HR4.o];omega),HR4.o]),HG2.o⟩
      | false=>
       have hf:fGn nodes seen3 z=0:=by unfold fGn Gn.bad;rw [HRR.o];simp [t0,t1,t2]
       have HF:=lH hf;clear hf
       go_wp2_with (first | (go_at_call 130;refine (npermitted_any _ _).mono ?_;rintro e w' ⟨rfl,rfl⟩) | (go_at_call 129;refine (nout_any _ _ _ _).mono ?_;rintro e w' ⟨rfl,rfl⟩))
       go_roundw
       case rel=>exact ⟨k+1,z.name::seen3,by omega,by go_num,HC3.o,HQ1'.o,HQ2'.o,by simp;omega,by rw [HGO.o];exact ckList_ok HZ.o HF.o⟩
       case measure=>simp [intOf];omega
   ·have hrb:(r != 0)=true:=by simpa using hr0
    have hf:fGn nodes seen3 z=r:=by unfold fGn;rw [HRR.o,if_pos hr0]
    have hr:(ckList (fGn nodes) Gn.name seen0 x.gns).1=r:=by rw [HGO.o];exact ckList_bad HZ.o hf hr0
    have HR4:=lH hr;have HR0:=lH hr0;clear hf hr hr0
    go_wp2_with fail
    go_ret;exact ⟨ret_int (by unfold ck3;rw [HND.o,if_pos (by rw [HR4.o];exact HR0.o),HR4.o]),HG2.o⟩
  ·have hd:x.gns.drop k=[]:=by rw [List.drop_eq_nil_iff];have:=hlen3.out;omega
   have hr:ckList (fGn nodes) Gn.name seen0 x.gns=(0,seen3):=by rw [HGO.o,hd];rfl
   have HL3:=lH hr;have hcnt3:seen3.length≤seen0.length+m3:=by omega
   clear hd hr hcnt;have hlenx:=HNET;have HW4:Hid (ck3 x seen0=ck4 x seen3):=lH (by unfold ck3;rw [HND.o,HL3.o];rfl)
   go_wp2_with fail
   have hlen4:Hid (x.lds.length=m4):=lH HNET.o.r4.1
   go_loopw [52] (fun i wr=>∃ (k:Nat) (seen4:List ByteArray),k≤m4∧i=.int .i64 k∧Ck w wr b A nn nodes ⟨A0,m0,c0,A1,m1,c1,A2,m2,c2,A3,m3,c3,A4,m4,c4,A5,m5,c5⟩ x seen4∧Blk wr w.heap.size 161 #[.map (some b),.slice A nn nc]∧Blk wr (w.heap.size+1) 29 #[.slice A0 m0 c0,.slice A1 m1 c1,.slice A2 m2 c2,.slice A3 m3 c3,.slice A4 m4 c4,.slice A5 m5 c5]∧seen4.length≤seen3.length+k∧ckList (fLd nodes) Ld.name seen3 x.lds=ckList (fLd nodes) Ld.name seen4 (x.lds.drop k)) (fun i _=>m4-(intOf i).toNat)
   case atStart=>exact ⟨0,seen3,by omega,rfl,HC.o,HQ1.o,HQ2.o,by omega,rfl⟩
   case round=>
    clear HC HQ1 HQ2 HNET;obtain ⟨k,seen4,hk,rfl,hC,hq1,hq2,hcnt,hgo⟩:=hrel;have HC:=lH hC;have HQ1:=lH hq1;have HQ2:=lH hq2;have HGO:=lH hgo;obtain ⟨g0,g1,gf,glt⟩:=check_box hq1;obtain ⟨y0,y1,y2,y3,y4,y5,nf,nlt⟩:=net_box (h:=⟨A0,m0,c0,A1,m1,c1,A2,m2,c2,A3,m3,c3,A4,m4,c4,A5,m5,c5⟩) hq2;have hbw:=hC.sn.lt;have HNET:=lH hC.net;clear hC hq1 hq2 hgo
    by_cases hlt:k<m4
    ·obtain ⟨z,hz⟩:∃ z,x.lds[k]?=some z:=zX_ (by have:=hlen4.out;omega)
     obtain ⟨bz,oz,hA,hbz⟩:=HC.o.net.r4.form (by dsimp only;omega);dsimp only at hA;subst hA;obtain ⟨e0,e1,e2⟩:=HC.o.net.r4.at_ hz;have hzn:=HC.o.net.z4 z (zC_ hz);have HZ:=lH (drop_cons hz);clear hz
     go_wp2_with fail
     have hB:=below2 wr (.cells #[.string z.name,.string z.node,.int .i64 z.demand] 199) (.cells #[.string z.node] 9);have hE:RdStr ((wr.alloc (.cells #[.string z.name,.string z.node,.int .i64 z.demand] 199)).alloc (.cells #[.string z.node] 9)) ((wr.alloc (.cells #[.string z.name,.string z.node,.int .i64 z.demand] 199)).alloc (.cells #[.string z.node] 9)).heap.size (some ⟨wr.heap.size+1,0,none⟩) 1 [z.node]:=rdStr_lit (zs:=[z.node]) (Blk.new_ (by simp)) (by simp);have hC2:=HC.o.below hB;refine (device_any b _ A nn nc nodes seen4 z.name _ 1 1 [z.node] _ hC2.rn hnn hC2.sn (by omega) hzn hE (by omega)).mono ?_;generalize hR:devR nodes seen4 z.name [z.node]=r;rintro e w2 ⟨rfl,hg2,hS2⟩;have hq3:Blk w2 wr.heap.size 199 #[.string z.name,.string z.node,.int .i64 z.demand]:=Blk.grown ((Blk.new wr _ _).alloc _) hg2 (fun e=>by injection e;omega)
     have hq1:Blk w2 w.heap.size 161 #[.map (some b),.slice A nn nc]:=Blk.grown (HQ1.o.bl hB) hg2 (fun e=>by injection e;omega);have hq2:=Blk.grown (HQ2.o.bl hB) hg2 (fun e=>by injection e;omega);have HG2:=lH (only_trans hC2.gr hg2);have HS2:=lH hS2;have HC2:=lH hC2;have Hg2:=lH hg2;obtain ⟨f0,f1,f2,ff,flt⟩:=Ld.box hq3;have HQ1':=lH hq1;have HQ2':=lH hq2;have HRR:=lH hR;clear hB hE hC2 hg2 hS2 hq3 hq1 hq2 hR e0 e1 e2
     by_cases hr0:r=0
     ·subst hr0
      have HC3:=lH (HC2.o.put Hg2.o (HS2.o rfl));cases t0:outB z.demand 0 100000 with
      | true=>
       have hf:fLd nodes seen4 z=4:=by unfold fLd Ld.bad;rw [HRR.o];simp [t0]
       have hr:(ckList (fLd nodes) Ld.name seen3 x.lds).1=4:=by rw [HGO.o];exact ckList_bad HZ.o hf (by omega)
       have HR4:=lH hr;clear hf hr
       go_wp2_with (first | (go_at_call 130;refine (npermitted_any _ _).mono ?_;rintro e w' ⟨rfl,rfl⟩) | (go_at_call 129;refine (nout_any _ _ _ _).mono ?_;rintro e w' ⟨rfl,rfl⟩))
       go_ret;exact ⟨ret_int (by rw [HW4.o];unfold ck4;rw [HND.o,if_pos (by rw [HR4.o];omega),HR4.o]),HG2.o⟩
      | false=>
       have hf:fLd nodes seen4 z=0:=by unfold fLd Ld.bad;rw [HRR.o];simp [t0]
       have HF:=lH hf;clear hf
       go_wp2_with (first | (go_at_call 130;refine (npermitted_any _ _).mono ?_;rintro e w' ⟨rfl,rfl⟩) | (go_at_call 129;refine (nout_any _ _ _ _).mono ?_;rintro e w' ⟨rfl,rfl⟩))
       go_roundw
       case rel=>exact ⟨k+1,z.name::seen4,by omega,by go_num,HC3.o,HQ1'.o,HQ2'.o,by simp;omega,by rw [HGO.o];exact ckList_ok HZ.o HF.o⟩
       case measure=>simp [intOf];omega
     ·have hrb:(r != 0)=true:=by simpa using hr0
      have hf:fLd nodes seen4 z=r:=by unfold fLd;rw [HRR.o,if_pos hr0]
      have hr:(ckList (fLd nodes) Ld.name seen3 x.lds).1=r:=by rw [HGO.o];exact ckList_bad HZ.o hf hr0
      have HR4:=lH hr;have HR0:=lH hr0;clear hf hr hr0
      go_wp2_with fail
      go_ret;exact ⟨ret_int (by rw [HW4.o];unfold ck4;rw [HND.o,if_pos (by rw [HR4.o];exact HR0.o),HR4.o]),HG2.o⟩
    ·have hd:x.lds.drop k=[]:=by rw [List.drop_eq_nil_iff];have:=hlen4.out;omega
     have hr:ckList (fLd nodes) Ld.name seen3 x.lds=(0,seen4):=by rw [HGO.o,hd];rfl
     have HL4:=lH hr;have hcnt4:seen4.length≤seen3.length+m4:=by omega
     clear hd hr hcnt;have hlenx:=HNET;have HW5:Hid (ck3 x seen0=ck5 x seen4):=lH (by rw [HW4.o];unfold ck4;rw [HND.o,HL4.o];rfl)
     go_wp2_with fail
     have hlen5:Hid (x.sts.length=m5):=lH HNET.o.r5.1
     go_loopw [74] (fun i wr=>∃ (k:Nat) (seen5:List ByteArray),k≤m5∧i=.int .i64 k∧Ck w wr b A nn nodes ⟨A0,m0,c0,A1,m1,c1,A2,m2,c2,A3,m3,c3,A4,m4,c4,A5,m5,c5⟩ x seen5∧Blk wr w.heap.size 161 #[.map (some b),.slice A nn nc]∧Blk wr (w.heap.size+1) 29 #[.slice A0 m0 c0,.slice A1 m1 c1,.slice A2 m2 c2,.slice A3 m3 c3,.slice A4 m4 c4,.slice A5 m5 c5]∧seen5.length≤seen4.length+k∧ckList (fSt nodes) St.name seen4 x.sts=ckList (fSt nodes) St.name seen5 (x.sts.drop k)) (fun i _=>m5-(intOf i).toNat)
     case atStart=>exact ⟨0,seen4,by omega,rfl,HC.o,HQ1.o,HQ2.o,by omega,rfl⟩
     case round=>
      clear HC HQ1 HQ2 HNET;obtain ⟨k,seen5,hk,rfl,hC,hq1,hq2,hcnt,hgo⟩:=hrel;have HC:=lH hC;have HQ1:=lH hq1;have HQ2:=lH hq2;have HGO:=lH hgo;obtain ⟨g0,g1,gf,glt⟩:=check_box hq1;obtain ⟨y0,y1,y2,y3,y4,y5,nf,nlt⟩:=net_box (h:=⟨A0,m0,c0,A1,m1,c1,A2,m2,c2,A3,m3,c3,A4,m4,c4,A5,m5,c5⟩) hq2;have hbw:=hC.sn.lt;have HNET:=lH hC.net;clear hC hq1 hq2 hgo
      by_cases hlt:k<m5
      ·obtain ⟨z,hz⟩:∃ z,x.sts[k]?=some z:=zX_ (by have:=hlen5.out;omega)
       obtain ⟨bz,oz,hA,hbz⟩:=HC.o.net.r5.form (by dsimp only;omega);dsimp only at hA;subst hA;obtain ⟨e0,e1,e2,e3,e4⟩:=HC.o.net.r5.at_ hz;have hzn:=HC.o.net.z5 z (zC_ hz);have HZ:=lH (drop_cons hz);clear hz
       go_wp2_with fail
       have hB:=below2 wr (.cells #[.string z.name,.string z.node,.int .i64 z.charge,.int .i64 z.discharge,.int .i64 z.capacity] 201) (.cells #[.string z.node] 9);have hE:RdStr ((wr.alloc (.cells #[.string z.name,.string z.node,.int .i64 z.charge,.int .i64 z.discharge,.int .i64 z.capacity] 201)).alloc (.cells #[.string z.node] 9)) ((wr.alloc (.cells #[.string z.name,.string z.node,.int .i64 z.charge,.int .i64 z.discharge,.int .i64 z.capacity] 201)).alloc (.cells #[.string z.node] 9)).heap.size (some ⟨wr.heap.size+1,0,none⟩) 1 [z.node]:=rdStr_lit (zs:=[z.node]) (Blk.new_ (by simp)) (by simp);have hC2:=HC.o.below hB;refine (device_any b _ A nn nc nodes seen5 z.name _ 1 1 [z.node] _ hC2.rn hnn hC2.sn (by omega) hzn hE (by omega)).mono ?_;generalize hR:devR nodes seen5 z.name [z.node]=r;rintro e w2 ⟨rfl,hg2,hS2⟩
       have hq3:Blk w2 wr.heap.size 201 #[.string z.name,.string z.node,.int .i64 z.charge,.int .i64 z.discharge,.int .i64 z.capacity]:=Blk.grown ((Blk.new wr _ _).alloc _) hg2 (fun e=>by injection e;omega);have hq1:Blk w2 w.heap.size 161 #[.map (some b),.slice A nn nc]:=Blk.grown (HQ1.o.bl hB) hg2 (fun e=>by injection e;omega);have hq2:=Blk.grown (HQ2.o.bl hB) hg2 (fun e=>by injection e;omega);have HG2:=lH (only_trans hC2.gr hg2);have HS2:=lH hS2;have HC2:=lH hC2;have Hg2:=lH hg2;obtain ⟨f0,f1,f2,f3,f4,ff,flt⟩:=St.box hq3;have HQ1':=lH hq1;have HQ2':=lH hq2;have HRR:=lH hR;clear hB hE hC2 hg2 hS2 hq3 hq1 hq2 hR e0 e1 e2 e3 e4
       by_cases hr0:r=0
       ·subst hr0
        have HC3:=lH (HC2.o.put Hg2.o (HS2.o rfl));cases t0:outB z.charge 0 100000 with
        | true=>
         have hf:fSt nodes seen5 z=4:=by unfold fSt St.bad;rw [HRR.o];simp [t0]
         have hr:(ckList (fSt nodes) St.name seen4 x.sts).1=4:=by rw [HGO.o];exact ckList_bad HZ.o hf (by omega)
         have HR4:=lH hr;clear hf hr
         go_wp2_with (first | (go_at_call 130;refine (npermitted_any _ _).mono ?_;rintro e w' ⟨rfl,rfl⟩) | (go_at_call 129;refine (nout_any _ _ _ _).mono ?_;rintro e w' ⟨rfl,rfl⟩))
         go_ret;exact ⟨ret_int (by rw [HW5.o];unfold ck5;rw [HND.o,HR4.o]),HG2.o⟩
        | false=>
         cases t1:outB z.discharge 0 100000 with
         | true=>
          have hf:fSt nodes seen5 z=4:=by unfold fSt St.bad;rw [HRR.o];simp [t0,t1]
          have hr:(ckList (fSt nodes) St.name seen4 x.sts).1=4:=by rw [HGO.o];exact ckList_bad HZ.o hf (by omega)
          have HR4:=lH hr;clear hf hr
          go_wp2_with (first | (go_at_call 130;refine (npermitted_any _ _).mono ?_;rintro e w' ⟨rfl,rfl⟩) | (go_at_call 129;refine (nout_any _ _ _ _).mono ?_;rintro e w' ⟨rfl,rfl⟩))
          go_ret;exact ⟨ret_int (by rw [HW5.o];unfold ck5;rw [HND.o,HR4.o]),HG2.o⟩
         | false=>
          cases t2:outB z.capacity 0 100000 with
          | true=>
           have hf:fSt nodes seen5 z=4:=by unfold fSt St.bad;rw [HRR.o];simp [t0,t1,t2]
           have hr:(ckList (fSt nodes) St.name seen4 x.sts).1=4:=by rw [HGO.o];exact ckList_bad HZ.o hf (by omega)
           have HR4:=lH hr;clear hf hr
           go_wp2_with (first | (go_at_call 130;refine (npermitted_any _ _).mono ?_;rintro e w' ⟨rfl,rfl⟩) | (go_at_call 129;refine (nout_any _ _ _ _).mono ?_;rintro e w' ⟨rfl,rfl⟩))
           go_ret;exact ⟨ret_int (by rw [HW5.o];unfold ck5;rw [HND.o,HR4.o]),HG2.o⟩
          | false=>
           have hf:fSt nodes seen5 z=0:=by unfold fSt St.bad;rw [HRR.o];simp [t0,t1,t2]
           have HF:=lH hf;clear hf
           go_wp2_with (first | (go_at_call 130;refine (npermitted_any _ _).mono ?_;rintro e w' ⟨rfl,rfl⟩) | (go_at_call 129;refine (nout_any _ _ _ _).mono ?_;rintro e w' ⟨rfl,rfl⟩))
           go_roundw
           case rel=>exact ⟨k+1,z.name::seen5,by omega,by go_num,HC3.o,HQ1'.o,HQ2'.o,by simp;omega,by rw [HGO.o];exact ckList_ok HZ.o HF.o⟩
           case measure=>simp [intOf];omega
       ·have hrb:(r != 0)=true:=by simpa using hr0
        have hf:fSt nodes seen5 z=r:=by unfold fSt;rw [HRR.o,if_pos hr0]
        have hr:(ckList (fSt nodes) St.name seen4 x.sts).1=r:=by rw [HGO.o];exact ckList_bad HZ.o hf hr0
        have HR4:=lH hr;have HR0:=lH hr0;clear hf hr hr0
        go_wp2_with fail
        go_ret;exact ⟨ret_int (by rw [HW5.o];unfold ck5;rw [HND.o,HR4.o]),HG2.o⟩
      ·have hd:x.sts.drop k=[]:=by rw [List.drop_eq_nil_iff];have:=hlen5.out;omega
       have hr:ckList (fSt nodes) St.name seen4 x.sts=(0,seen5):=by rw [HGO.o,hd];rfl
       have HL5:=lH hr;have hcnt5:seen5.length≤seen4.length+m5:=by omega
       clear hd hr hcnt;have hlenx:=HNET
       go_wp2_with fail
       go_ret;exact ⟨ret_int (by rw [HW5.o];unfold ck5;rw [HND.o,HL5.o]),HC.o.gr⟩
end
section
open Go.ChangeShapes Go.WideShapes Go.ChangeAt Go.RowKit
theorem ckList_all {α:Type} {f:List ByteArray→α→Int} {nm:α→ByteArray}:∀ (l:List α) (seen:List ByteArray),(ckList f nm seen l).1=0→∀ x∈l,∃ s,f s x=0
 | [],_,_,x,hx=>by simp at hx
 | y::r,seen,h,x,hx=>by
  unfold ckList at h
  split at h
  ·rename_i h0;exact absurd h h0
  ·rename_i h0
   have h0':f seen y=0:=Decidable.not_not.1 h0;rcases List.mem_cons.1 hx with rfl | hx
   ·exact ⟨seen,h0'⟩
   ·exact ckList_all r _ h x hx
theorem devR_ok {nodes seen ends:List ByteArray} {name:ByteArray} (h:devR nodes seen name ends=0):nameB name=true∧(∀ s∈ends,s∈nodes)∧¬(ends.length=2∧ends[0]?=ends[1]?)∧¬(seen.any (fun x=>sEq name x)=true):=by
 unfold devR at h
 split at h
 ·omega
 ·rename_i h1
  split at h
  ·omega
  ·rename_i h2
   split at h
   ·omega
   ·rename_i h3
    split at h
    ·omega
    ·rename_i h4
     refine ⟨by cases hn:nameB name<;>simp_all,fun s hs=>?_,h4,h2⟩;apply Classical.byContradiction;intro hns;apply h3;rw [List.any_eq_true];refine ⟨s,hs,?_⟩;have:nodes.any (fun x=>sEq s x)=false:=by
      rw [List.any_eq_false];intro y hy hsy;exact hns (by rw [sEq_iff.1 hsy];exact hy)
     rw [this];rfl
structure NetOk (x:Net):Prop where
 l0:x.nodes.length≤24
 l1:x.sws.length≤32
 l2:x.brs.length≤24
 l3:x.gns.length≤10
 l4:x.lds.length≤12
 l5:x.sts.length≤4
 sw:∀ s∈x.sws,s.a∈x.nodes∧s.b∈x.nodes∧s.a≠s.b
 br:∀ b∈x.brs,b.fr∈x.nodes∧b.to∈x.nodes∧b.fr≠b.to∧b.bad=false
 gn:∀ g∈x.gns,g.node∈x.nodes∧g.bad=false
 ld:∀ g∈x.lds,g.node∈x.nodes∧g.bad=false
 st:∀ g∈x.sts,g.node∈x.nodes∧g.bad=false
theorem netCk_ok {x:Net} (h:netCk x=0):NetOk x:=by
 unfold netCk at h
 split at h
 ·omega
 ·rename_i hl
  unfold netLarge at hl;unfold ck0 at h
  split at h
  ·rename_i h0;exact absurd h h0
  ·unfold ck1 at h
   split at h
   ·rename_i h0;exact absurd h h0
   ·rename_i h1
    unfold ck2 at h
    split at h
    ·rename_i h0;exact absurd h h0
    ·rename_i h2
     unfold ck3 at h
     split at h
     ·rename_i h0;exact absurd h h0
     ·rename_i h3
      unfold ck4 at h
      split at h
      ·rename_i h0;exact absurd h h0
      ·rename_i h4
       unfold ck5 at h;have a1:=ckList_all _ _ (Decidable.not_not.1 h1);have a2:=ckList_all _ _ (Decidable.not_not.1 h2);have a3:=ckList_all _ _ (Decidable.not_not.1 h3);have a4:=ckList_all _ _ (Decidable.not_not.1 h4);have a5:=ckList_all _ _ h;refine ⟨by omega,by omega,by omega,by omega,by omega,by omega,fun s hs=>?_,fun s hs=>?_,fun s hs=>?_,fun s hs=>?_,fun s hs=>?_⟩
       ·obtain ⟨sn,hf⟩:=a1 s hs
        unfold fSw at hf
        split at hf
        ·rename_i h0;exact absurd hf h0
        ·rename_i h0
         obtain ⟨_,q2,q3,_⟩:=devR_ok (Decidable.not_not.1 h0);exact ⟨q2 _ (by simp),q2 _ (by simp),fun e=>q3 ⟨rfl,by simp [e]⟩⟩
       ·obtain ⟨sn,hf⟩:=a2 s hs
        unfold fBr at hf
        split at hf
        ·rename_i h0;exact absurd hf h0
        ·rename_i h0
         obtain ⟨_,q2,q3,_⟩:=devR_ok (Decidable.not_not.1 h0);refine ⟨q2 _ (by simp),q2 _ (by simp),fun e=>q3 ⟨rfl,by simp [e]⟩,?_⟩;unfold Br.ck at hf;cases hb:s.bad<;>simp_all
       ·obtain ⟨sn,hf⟩:=a3 s hs
        unfold fGn at hf
        split at hf
        ·rename_i h0;exact absurd hf h0
        ·rename_i h0
         obtain ⟨_,q2,q3,_⟩:=devR_ok (Decidable.not_not.1 h0);refine ⟨q2 _ (by simp),?_⟩;cases hb:s.bad<;>simp_all
       ·obtain ⟨sn,hf⟩:=a4 s hs
        unfold fLd at hf
        split at hf
        ·rename_i h0;exact absurd hf h0
        ·rename_i h0
         obtain ⟨_,q2,q3,_⟩:=devR_ok (Decidable.not_not.1 h0);refine ⟨q2 _ (by simp),?_⟩;cases hb:s.bad<;>simp_all
       ·obtain ⟨sn,hf⟩:=a5 s hs
        unfold fSt at hf
        split at hf
        ·rename_i h0;exact absurd hf h0
        ·rename_i h0
         obtain ⟨_,q2,q3,_⟩:=devR_ok (Decidable.not_not.1 h0);refine ⟨q2 _ (by simp),?_⟩;cases hb:s.bad<;>simp_all
def ndIdx (nodes:List ByteArray) (s:ByteArray):Nat:=(idxGo (fun x=>sEq s x) nodes 0).toNat
theorem ndIdx_ok {nodes:List ByteArray} {s:ByteArray} (h:s∈nodes):idxGo (fun x=>sEq s x) nodes 0=(ndIdx nodes s:Int)∧ndIdx nodes s<nodes.length:=by
 rcases idxGo_spec (fun x=>sEq s x) nodes 0 with ⟨h1,h2⟩ | ⟨i,y,h1,h2,h3,_⟩
 ·exact absurd rfl (sEq_ff.1 (h2 s h))
 ·unfold ndIdx
  rw [h1];have:=(zB_.1 h2).1;exact ⟨by simp,by simpa using this⟩
end
end Go.Proofs.YthgdchffeigkbaaGreatDoor
