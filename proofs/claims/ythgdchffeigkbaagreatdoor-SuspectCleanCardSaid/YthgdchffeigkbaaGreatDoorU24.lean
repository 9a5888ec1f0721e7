import Derived.Test.YthgdchffeigkbaaGreatDoorU16
import Derived.Test.YthgdchffeigkbaaGreatDoorU17
import Derived.Test.YthgdchffeigkbaaGreatDoorU21
import Derived.Test.YthgdchffeigkbaaGreatDoorU22
import Derived.Test.YthgdchffeigkbaaGreatDoorU23
set_option linter.unusedVariables false
set_option linter.unusedSimpArgs false
namespace Go.Proofs.YthgdchffeigkbaaGreatDoor
set_option maxHeartbeats 8000000
set_option maxRecDepth 100000
section
open Go.ChangeShapes Go.WideShapes Go.ChangeAt Go.RowKit
attribute [local go_sem ↓] execOp_call_val
attribute [local go_sem] callVal_func setCell_drewN alloc_drewN sEq_walk
theorem ext_put {q:List Rat} {n k:Nat} (hq:q.length=n):(q++List.replicate n (0:Rat)).set (n+k) 1=q++unitL n k:=by
 unfold unitL;rw [List.set_append_right _ _ (by omega),hq];congr 2
 omega
theorem unit_bd {n i:Nat}:∀ x∈unitL n i,qsz x+1≤3:=fun x hx=>by
 have:x=0∨x=1:=by
  unfold unitL at hx;rcases List.mem_or_eq_of_mem_set hx with h | h
  ·exact .inl (List.mem_replicate.1 h).2
  ·exact .inr h
 rcases this with h | h<;>rw [h]<;>decide+kernel
theorem extR_bd {M:List (List Rat)} {b:Nat} (h:Bd b M) (hb:3≤b):Bd b (extR M):=fun a ha x hx=>by
 obtain ⟨i,hi⟩:=List.mem_iff_getElem?.1 ha;obtain ⟨row,hr⟩:∃ row,M[i]?=some row:=zX_ (by have:=(zB_.1 hi).1;rwa [extR_len] at this);rw [extR_at hr] at hi;injection hi with hi;rw [←hi] at hx;rcases List.mem_append.1 hx with hx | hx
 ·exact h row (zC_ hr) x hx
 ·exact zI_ (unit_bd x hx) hb
section
variable {w w':World} {base g:Nat} {hs:List Mh} {L:List (List Rat)}
theorem OwnM.mat (o:OwnM w base g hs L):MatS base g w w (.slice none 0 0) [] hs L:=⟨o,ownS_none _ _ _ _ _,bR⟩
end
structure CutM (w:World) (base g n k:Nat) (hs:List Hd) (L:List (List Rat)):Prop where
 top:Blk w g 93 (hs.map Hd.val).toArray
 len:hs.length=L.length
 gb:base≤g
 row:∀ (i:Nat) (h:Hd) (q:List Rat),hs[i]?=some h→L[i]?=some q→RdQ w w.heap.size h.A h.n (if i<k then q.drop n else q)∧h.n≤h.c∧h.c≤maxLen∧(0<h.n→∃ b off,h.A=some ⟨b,off,none⟩∧b≠g)
section
variable {w w':World} {base g n k:Nat} {hs:List Hd} {L:List (List Rat)}
theorem OwnM.cut {ms:List Mh} (o:OwnM w base g ms L):CutM w base g n 0 (ms.map fun h=>⟨h.A,h.vs.length,h.c⟩) L:=by
 refine ⟨?_,by rw [zG_,o.len],o.gb,fun i h q hh hq=>?_⟩
 ·rw [List.map_map];exact o.top
 ·rw [zM_] at hh
  obtain ⟨m,hm,rfl⟩:=Option.map_eq_some_iff.1 hh;have r:=o.row i m q hm hq;refine ⟨?_,r.cap,r.cm,fun h0=>?_⟩
  ·rw [if_neg (by omega)]
   have:=r.rd;rwa [←r.len] at this
  ·obtain ⟨h1,h2,h3,_⟩:=r.lies (by rw [←r.len];exact h0)
   exact ⟨m.g,0,h1,h3⟩
theorem CutM.up (o:CutM w base g n k hs L) (hb:Below w.heap.size w w'):CutM w' base g n k hs L:=
 ⟨o.top.bl hb,o.len,o.gb,fun i h q hh hq=>by
  obtain ⟨h1,h2,h3,h4⟩:=o.row i h q hh hq;exact ⟨(h1.below hb lR).more hb.size,h2,h3,h4⟩⟩
theorem CutM.get (o:CutM w base g n k hs L) {i:Nat} {q:List Rat} (hq:L[i]?=some q):∃ h:Hd,hs[i]?=some h∧w.cell? ⟨g,i,none⟩=some (.slice h.A h.n h.c):=by
 obtain ⟨h,hh⟩:∃ h,hs[i]?=some h:=zX_ (by rw [o.len];exact (zB_.1 hq).1);refine ⟨h,hh,?_⟩;rw [o.top.cell,List.getElem?_toArray,zM_,hh];rfl
theorem RdQ.drop {w:World} {B m n b off:Nat} {q:List Rat} (h:RdQ w B (some ⟨b,off,none⟩) m q) (hn:n≤m):RdQ w B (some ⟨b,off+n*4,none⟩) (m-n) (q.drop n):=by
 obtain ⟨vs,h1,h2,h3,h4⟩:=h;refine ⟨vs.drop n,by rw [zS_,h1],by rw [zS_,h2],⟨by rw [rvs_len,zS_,h1],fun h0=>?_⟩,fun i x v hx hv=>?_⟩
 ·obtain ⟨b',off',e,hlt,hc⟩:=h3.2 (by omega)
  injection e with e;injection e with e1 e2;subst e1;subst e2;refine ⟨b,off+n*4,rfl,hlt,fun j u hu=>?_⟩;have hd:rvs vs=rvs (vs.take n)++rvs (vs.drop n):=by
   unfold rvs;rw [←List.flatMap_append,List.take_append_drop]
  have hu2:(rvs vs)[n*4+j]?=some u:=by
   rw [hd,zN_ (by rw [rvs_len,zF_,h1];omega),rvs_len,zF_,h1,show n*4+j-min n m*4=j from by omega];exact hu
  have:=hc _ u hu2;rwa [←Nat.add_assoc] at this
 ·rw [List.getElem?_drop] at hx hv
  exact h4 _ _ _ hx hv
theorem CutM.step (o:CutM w base g n k hs L) {h h2:Hd} {q:List Rat} (hh:hs[k]?=some h) (hq:L[k]?=some q) (hr:RdQ w w.heap.size h2.A h2.n (q.drop n)) (h1:h2.n≤h2.c) (h3:h2.c≤maxLen) (h4:0<h2.n→∃ b off,h2.A=some ⟨b,off,none⟩∧b≠g):CutM (w.setCell ⟨g,k,none⟩ (.slice h2.A h2.n h2.c)) base g n (k+1) (hs.set k h2) L:=by
 have hkl:=(zB_.1 hh).1;have hrd:∀ {A:Option Addr} {m:Nat} {p:List Rat},RdQ w w.heap.size A m p→(0<m→∃ b off,A=some ⟨b,off,none⟩∧b≠g)→RdQ (w.setCell ⟨g,k,none⟩ (.slice h2.A h2.n h2.c)) (w.setCell ⟨g,k,none⟩ (.slice h2.A h2.n h2.c)).heap.size A m p:=fun {A m p} H hA=>by
  obtain ⟨vs,a1,a2,a3,a4⟩:=H;refine ⟨vs,a1,a2,⟨a3.1,fun hm=>?_⟩,fun i x v hx hv=>?_⟩
  ·obtain ⟨b,off,e,hlt,hc⟩:=a3.2 hm
   obtain ⟨b',off',e',hne⟩:=hA hm;rw [e] at e';injection e' with e';injection e' with e1 e2;subst e1;refine ⟨b,off,e,by simpa [World.setCell] using hlt,fun j u hu=>?_⟩;rw [World.cell?_setCell_other _ _ _ _ (fun e=>hne (by injection e with e;exact e.symm))];exact hc j u hu
  ·have h0:RtIs w w.heap.size x v.b1 v.A v.n v.c v.b2 v.A2 v.m v.d:=a4 i x v hx hv
   refine RtIs.keep h0 (v:=h.val) ?_ (fun a b e=>by simp [Hd.val] at e) _;rw [o.top.cell,List.getElem?_toArray,zM_,hh];rfl
 refine ⟨?_,by rw [zU_,o.len],o.gb,fun i z p hz hp=>?_⟩
 ·have:=o.top.set_ k (.slice h2.A h2.n h2.c)
  rw [List.map_set];simpa [Hd.val] using this
 ·rw [List.getElem?_set] at hz
  by_cases hik:k=i
  ·subst hik
   rw [if_pos rfl,if_pos hkl] at hz;injection hz with hz;subst hz;rw [hq] at hp;injection hp with hp;subst hp;refine ⟨?_,h1,h3,h4⟩;rw [if_pos (Nat.lt_succ_self _)];exact hrd hr h4
  ·rw [if_neg hik] at hz
   obtain ⟨a1,a2,a3,a4⟩:=o.row i z p hz hp;refine ⟨?_,a2,a3,a4⟩;have e:(if i<k+1 then p.drop n else p)=if i<k then p.drop n else p:=by
    by_cases hlt:i<k
    ·rw [if_pos hlt,if_pos (by omega)]
    ·rw [if_neg hlt,if_neg (by omega)]
   rw [e];exact hrd a1 a4
theorem CutM.rd (o:CutM w base g n L.length hs L):RdM w w.heap.size (some ⟨g,0,none⟩) L.length (L.map (List.drop n)):=by
 refine ⟨hs,o.len,zG_ _,⟨by simp [o.len],fun _=>⟨g,0,rfl,o.top.lt,fun j u hu=>?_⟩⟩,fun i h q hh hq=>?_⟩
 ·rw [Nat.zero_add,o.top.cell j,List.getElem?_toArray]
  exact hu
 ·rw [zM_] at hq
  obtain ⟨p,hp,rfl⟩:=Option.map_eq_some_iff.1 hq;obtain ⟨a1,a2,a3,_⟩:=o.row i h p hh hp;rw [if_pos (zB_.1 hp).1] at a1;exact ⟨a1,a2,a3⟩
end
def InvP (M:List (List Rat)) (w:World) (e:Ending) (w':World):Prop:=Below w.heap.size w w'∧(((redR (extR M) M.length).2.length<M.length∧e=.returned (.tuple #[.slice none 0 0,.bool false]))∨
 (¬(redR (extR M) M.length).2.length<M.length∧∃ g,e=.returned (.tuple #[.slice (some ⟨g,0,none⟩) M.length M.length,.bool true])∧w.heap.size≤g∧RdM w' w'.heap.size (some ⟨g,0,none⟩) M.length ((redR (extR M) M.length).1.map (List.drop M.length))))
theorem zeros_rd {w:World} {g n:Nat} {v:Rv} (hb:Blk w g 115 (rvs (List.replicate n v)).toArray):Rd w w.heap.size 4 (some ⟨g,0,none⟩) n (rvs (List.replicate n v)):=
 ⟨by rw [rvs_len,zO_],fun _=>⟨g,0,rfl,hb.lt,fun j u hu=>by rw [Nat.zero_add,hb.cell j];simpa using hu⟩⟩
theorem rep_ok {w:World} {n:Nat} {v:Rv} {q:Rat} (h:RtV w w.heap.size q v):RvOk w (List.replicate n v) (List.replicate n q):=fun i p x hp hx=>by
 rw [List.getElem?_replicate] at hp hx
 split at hp
 ·rename_i hi
  rw [if_pos hi] at hx;injection hp with hp;injection hx with hx;subst hp;subst hx;exact h
 ·cases hp
theorem RvOk.app {w:World} {vs us:List Rv} {ps qs:List Rat} (h:RvOk w vs ps) (h2:RvOk w us qs) (hl:vs.length=ps.length):RvOk w (vs++us) (ps++qs):=fun i q v hq hv=>by
 by_cases hi:i<ps.length
 ·rw [zR_ hi] at hq
  rw [zR_ (by omega)] at hv;exact h i q v hq hv
 ·rw [zN_ (by omega)] at hq
  rw [zN_ (by omega),hl] at hv;exact h2 _ q v hq hv
theorem rvs_app (a b:List Rv):rvs (a++b)=rvs a++rvs b:=by unfold rvs;rw [List.flatMap_append]
theorem inverse_m (A:Option Addr) (n c b:Nat) (M:List (List Rat)) (w:World) (hR:RdM w w.heap.size A n M) (hn:n≤1000) (hw:∀ a∈M,a.length=n) (hbd:Bd b M) (hb3:3≤b) (hsz:4^n*b≤4000000000000) :
    Calls Tryz.prog 121 #[.slice A n c] w (InvP M w):=by
 have HR:=lH hR;have HL:=lH hR.len;have HWD:=lH hw;have HEW:Hid (∀ a∈extR M,a.length=n+n):=lH (by have h:=hR.len;have:=extR_wid (M:=M) (by rw [h];exact hw);rwa [h] at this);have HEB:=lH (extR_bd hbd hb3);have HSZ:=lH hsz;obtain ⟨i0,hi0,hz0,hz1,hz2⟩:=rat_parts;have HI0:=lH hi0;have HI1:=lH hz0;have HI2:=lH hz1;have HI3:=lH hz2;clear hR hw hi0 hz0 hz1 hz2 hbd hb3 hsz;have hmk:∀ w:World,(Instr.makeSlice 92 (.int .i64 (n:Int)) (.int .i64 (n:Int))).run Tryz.prog w=.ok (.slice (some ⟨w.heap.size,0,none⟩) n n) (w.alloc (.cells (nilRows n) 93)):=fun w=>make_rows n (by omega) w;have HK:=lH ((Below.refl w.heap.size w).alloc lR (.cells (nilRows n) 93));have HG:=lH (Blk.new w 93 (nilRows n));go_enter Tryz.func121,Tryz.ntmps121
 go_wp2_with fail
 clear hmk;generalize w.alloc (.cells (nilRows n) 93)=W at *;have HO:=lH (ownM_made HG.o lR);generalize hg:w.heap.size=g at *;have HGS:=lH hg;clear hg HG
 go_loopw [16] (fun v16 wr=>∃ (k:Nat) (hs:List Mh),k≤n∧v16=.int .i64 k∧Below g w wr∧OwnM wr g g hs ((extR M).take k++List.replicate (n-k) [])) (fun v16 _=>n-(intOf v16).toNat)
 case atStart=>exact ⟨0,_,by omega,rfl,HK.o,by rw [List.take_zero,List.nil_append,Nat.sub_zero];exact HO.o⟩
 case round=>
  clear HK HO;obtain ⟨k,hs,hk,rfl,hb,ho⟩:=hrel;have HK:=lH hb;have HO:=lH ho;clear hb ho
  by_cases hlt:k<n
  ·obtain ⟨q,hq⟩:∃ q,M[k]?=some q:=zX_ (by have:=HL.o;omega)
   obtain ⟨b0,o,hA,hb⟩:=(HR.o.below HK.o (by have:=HGS.o;omega)).form (by omega);subst hA;obtain ⟨h,hc,hrq,hh1,hh2⟩:=(HR.o.below HK.o (by have:=HGS.o;omega)).at_ hq;have HGL:Hid (g<wr.heap.size):=lH HO.o.top.lt;have HRQ:=lH (hrq.more (B':=wr.heap.size) (by have:=HGS.o;have:=HGL.o;omega));have HQL:Hid (q.length=n):=lH (HWD.o q (zC_ hq));have HXQ:=lH (extR_at hq);rw [HL.o] at HXQ;have HF:Hid (((extR M).take k++List.replicate (n-k) []).set k (q++unitL n k)=(extR M).take (k+1)++List.replicate (n-(k+1)) []):=lH (fill_set (by rw [extR_len,HL.o]) HXQ.o);have hkI:(k:Int)<(n:Int):=by omega
   have HN1:=lN k;have HN2:Hid (n-(k+1)<n-k):=lH (by omega);have hbl:b0<wr.heap.size:=by have:=HK.o.size;have:=HGS.o;omega
   obtain ⟨vs,hv1,hv2,hv3,hv4⟩:=rdQ_parts HRQ.o;obtain ⟨hA0,hn0,hc0⟩:=h;simp only at hc hv1 hv2 hv3 hv4 hh1 hh2;have hn0n:hn0=n:=by have:=HQL.o;omega
   subst hn0n;have HV1:=lH hv1;have HV3:=lH hv3;have HV4:=lH hv4;clear hv1 hv2 hv3 hv4 hq hrq hb HR
   go_wp2_with (at_builtin;refine wpList_appR (S:=NoI) rfl (.const (.slice none 0 0)) (.tmp 24) _ rfl g 115 i0 _ 4 64 Tryz.underlying93 HI0.o HI1.o HI2.o HI3.o rfl (by omega) zr_noI (.slice none 0 0) 0 [] rfl (ownS_none _ _ _ _ _) hA0 hn0 hc0 (rvs vs) rfl HV3.o (rvs_noI vs) ?k1 ?k2 ?k3 ?_)
   case k1=>simp only [maxLen];omega
   case k2=>omega
   case k3=>have:=HGL.o;omega
   intro v' w6 hown hkeep hb6 how6 hblk;have HB6:=lH hb6;have HOW6:=lH how6;clear hown hkeep hb6 how6 hblk hc
   go_wp2_with fail
   refine (zeros_any hn0 w6 hn).mono ?_;rintro e w7 ⟨hb7,gz,vz,rfl,hgz,hbz,hvz⟩;have HB7:=lH hb7;have HOW7:=lH (HOW6.o.keep hb7);have HZR:=lH (zeros_rd hbz);have HVZ:=lH hvz;have HV7:Hid (RvOk w7 vs q):=lH (RvOk.up (w:=w6) (RvOk.up (w:=wr) HV4.o HB6.o) hb7);have HBS:Hid (wr.heap.size≤w7.heap.size):=lH (zI_ HB6.o.size hb7.size);clear hb7 hbz hvz hgz HOW6
   go_wp2_with (at_builtin;refine wpList_appR (S:=NoI) rfl (.tmp 25) (.tmp 27) _ rfl wr.heap.size 115 i0 _ 4 64 Tryz.underlying93 HI0.o HI1.o HI2.o HI3.o rfl (by omega) zr_noI v' hn0 (rvs vs) rfl HOW7.o (some ⟨gz,0,none⟩) hn0 hn0 (rvs (List.replicate hn0 vz)) rfl HZR.o (rvs_noI _) ?k1 ?k2 ?k3 ?_)
   case k1=>simp only [maxLen];omega
   case k2=>omega
   case k3=>exact HBS.o
   intro v2 w8 hown8 hkeep8 hnil8 hblk8;have HB8:Hid (Below wr.heap.size wr w8):=lH (HB6.o.trans ((HB7.o.mono HB6.o.size).trans hkeep8.low));have HOQ:Hid (OwnQ w8 wr.heap.size v2 (vs++List.replicate hn0 vz) (q++List.replicate hn0 0)):=lH (by
    refine ⟨?_,?_,?_⟩
    ·rw [zE_,zO_,HV1.o,rvs_app];exact hown8
    ·rw [zE_,zE_,zO_,zO_,HV1.o,HQL.o]
    ·refine RvOk.app (fun i p x hp hx=>?_) (rep_ok (RtV.keeps HVZ.o hkeep8)) (by rw [HV1.o,HQL.o])
     exact RtV.keeps (HV7.o i p x hp hx) hkeep8)
   obtain ⟨h2,hv,hvs,hrow⟩:=mrow_own (w':=w8) (g:=g) HOQ.o HGL.o;subst hv;have HRW:=lH (hrow.mono (base':=g) (zQ_ HGL.o));have HBW:=lH (HK.o.trans (HB8.o.mono (zQ_ HGL.o)));have HO8:=lH (HO.o.up HB8.o);have HFR:Hid (∀ j (h':Mh),j≠k→hs[j]?=some h'→0<h'.vs.length→0<h2.vs.length→h'.g≠h2.g):=lH fun j h' _ hh l1 l2=>by
    have h3:=HO.o.lt hh l1;have h4:=(hrow.lies (by rw [←hrow.len];exact l2)).2.1;omega
   clear hown8 hkeep8 hnil8 hblk8 hvs hrow HK HO HOQ HV7 HVZ HZR HOW7 HB6 HB7 HV3 HV4 HBS;have HQQ0:(q++List.replicate hn0 (0:Rat)).length=hn0+hn0:=by rw [zE_,zO_,HQL.o]
   have HQ9L:=lH HQQ0;have gl:=HO8.o.top.lt;have gf:=HO8.o.top.frozen;have HKL:Hid (k<(((extR M).take k++List.replicate (hn0-k) []):List (List Rat)).length):=lH (by simp;have:=HL.o;have:=extR_len M;omega);obtain ⟨gv,gc⟩:∃ gv,w8.cell? ⟨g,k,none⟩=some gv:=by
    rw [HO8.o.top.cell];exact ⟨_,Array.getElem?_eq_getElem (by rw [List.size_toArray,zG_,HO8.o.len];exact HKL.o)⟩
   have HO9:=lH (HO8.o.setRow HKL.o HRW.o HFR.o);have HB9:Hid (Below g w (w8.setCell ⟨g,k,none⟩ (.slice h2.A (q++List.replicate hn0 (0:Rat)).length h2.c))):=lH (HBW.o.setCell lR _);rw [HQQ0] at HO9 HB9 ⊢;clear HQQ0
   go_upto_region 7 with fail
   clear gl gf gc;generalize w8.setCell ⟨g,k,none⟩ (.slice h2.A (hn0+hn0) h2.c)=w9 at *;have HQ9:Hid ((((extR M).take k++List.replicate (hn0-k) []).set k (q++List.replicate hn0 0))[k]?=some (q++List.replicate hn0 0)):=lH (by rw [List.getElem?_set,if_pos rfl,if_pos HKL.o]);have HP9:Hid ((((extR M).take k++List.replicate (hn0-k) []).set k (q++List.replicate hn0 0)).set k ((q++List.replicate hn0 0).set (hn0+k) 1)=(extR M).take (k+1)++List.replicate (hn0-(k+1)) []):=lH (by rw [List.set_set,ext_put HQL.o,HF.o]);generalize (((extR M).take k++List.replicate (hn0-k) []).set k (q++List.replicate hn0 0))=L9 at *;generalize q++List.replicate hn0 (0:Rat)=q9 at *;generalize hs.set k h2=hs9 at *;obtain ⟨gg,cc,vs9,x9,hh9,c,hx9,c0,c1,c2,c3,hv9,l1,f1,hne⟩:=HO9.o.mat.elem (i:=k) (j:=hn0+k) HQ9.o (by rw [HQ9L.o];omega);rw [HQ9L.o] at c;have HH:=lH hh9;have HX:=lH hx9;have gl:=HO9.o.top.lt
   have HB4:=lH (below_drew (Below.refl w9.heap.size w9));clear hh9 hx9 hv9 HF HXQ HRW HFR HKL HBW HO8 HV1 HB8;obtain ⟨m,hm⟩:∃ m:Nat,m=hn0+k:=⟨_,rfl⟩;rw [←hm] at c0 c1 c2 c3 HX HP9;have HM:=lH hm;have hw1:IntKind.i64.wrap (m:Int)=(m:Int):=IntWalk.i64_in _ (by omega);have hw2:(hn0:Int)+(k:Int)=(m:Int):=by omega
   have hm2:m<hn0+hn0:=by omega
   have hm3:(m:Int)<((hn0+hn0:Nat):Int):=by omega
   have hk0:=lZ k
   have hm0:=lZ m
   have hmn:=zL_ m;generalize hn0+hn0=n2 at *;clear hm;refine wp_region_last (S:=fun w'=>Below w9.heap.size w9 w') 9 _ (by kernel_rfl) (by kernel_rfl) rfl (below_drew bR) (fun hHeld=>?_);simp only [zK_,List.take_zero];refine tkH 0 rfl ?_;refine tkH 1 rfl ?_;refine tkH 2 rfl ?_;refine tkH 3 rfl ?_;refine tkH 4 rfl ?_;refine tkH 5 rfl ?_;refine tkH 6 rfl ?_;refine stepH 7 (by kernel_rfl) rfl (fun K hK=>?_);go_simp;refine (wholeV 1 w9.drew (by decide) (by decide)).mono ?_;rintro e w10 ⟨hb10,v10,rfl,h10⟩;have HB10:Hid (Below w9.heap.size w9 w10):=lH (HB4.o.trans hb10);have H10:=lH h10;clear hb10 h10;go_simp;refine hK.out _ _ ?_ (fun hHeld=>?_)
   ·exact HB10.o
   clear hK K
   try simp only [Act.put,sA_,sB_,sC_]
   refine tkH 8 rfl ?_;refine wpAnyH_done (by kernel_rfl) ?_ _;refine lastQ_go (by rfl) ?_;clear hHeld;have HO10:=lH (HO9.o.up HB10.o);have HB11:=lH (HB9.o.trans (HB10.o.mono (by have:=HB9.o.size;have:=HGS.o;omega)));clear c c0 c1 c2 c3 l1 f1 hne gl HO9 HB9;obtain ⟨c0,c1,c2,c3,l1,f1⟩:=HO10.o.mat.elem2 HH.o HQ9.o HX.o
   go_wp2_with fail
   go_roundw
   case rel=>exact ⟨k+1,_,hlt,val_int HN1.o,below_putV HB11.o (by
       obtain ⟨h1,h2,-⟩:=(HO10.o.row k _ q9 HH.o HQ9.o).lies (by rw [HQ9L.o];omega);exact h2),by
       rw [←HP9.o];exact HO10.o.put HH.o HQ9.o (by rw [HQ9L.o];exact hm2) H10.o⟩
   case measure=>exact HN2.o
  ·have hke:k=n:=by omega
   subst hke;have hkI:¬(k:Int)<(k:Int):=by omega
   have HOX:Hid (OwnM wr g g hs (extR M)):=lH (by
    have h:=HO.o;rw [Nat.sub_self,List.replicate_zero,List.append_nil,zH_ (by rw [extR_len,HL.o];exact lR)] at h;exact h)
   have HRX:Hid (RdM wr wr.heap.size (some ⟨g,0,none⟩) k (extR M)):=lH (by have h:=HOX.o.rd;rwa [extR_len,HL.o] at h);have HRD:=lH (reduce_m (some ⟨g,0,none⟩) k k k (k+k) b (extR M) wr HRX.o (by omega) HEW.o (by omega) (by omega) HEB.o HSZ.o);have HOK:=lH (redR_ok (M:=extR M) (N:=k+k) (cols:=k) HEW.o (by omega));clear HRX HO HEB HSZ HEW
   go_wp2_with fail
   refine HRD.o.mono ?_;rintro e w2 ⟨hb2,g2,hs2,v,rfl,ho2,hp⟩;obtain ⟨pA,pc,hv,-,-⟩:=hp.shape;subst hv;have HB2:=lH (HK.o.trans (hb2.mono (by have:=HK.o.size;have:=HGS.o;omega)));have HC2:=lH (ho2.cut (n:=k));have HGG:Hid (g≤wr.heap.size):=lH (by have:=HK.o.size;have:=HGS.o;omega);rw [show (extR M).length=k from by rw [extR_len,HL.o]];have HINV:Hid (∀ (e:Ending) (w':World),Below w.heap.size w w'→(((redR (extR M) k).2.length<k∧e=.returned (.tuple #[.slice none 0 0,.bool false]))∨(¬(redR (extR M) k).2.length<k∧∃ g,e=.returned (.tuple #[.slice (some ⟨g,0,none⟩) k k,.bool true])∧w.heap.size≤g∧RdM w' w'.heap.size (some ⟨g,0,none⟩) k ((redR (extR M) k).1.map (List.drop k))))→InvP M w e w'):=lH fun e w' h1 h2=>by
    unfold InvP;rw [HL.o];exact ⟨h1,h2⟩
   have HLL:Hid ((redR (extR M) k).1.length=k):=lH (by rw [HOK.o.len,extR_len,HL.o]);have HLW:=lH HOK.o.wid;clear hb2 ho2 hp HRD HOK HOX HK;generalize (redR (extR M) k).1=L at *;generalize (redR (extR M) k).2.length=pl at *
   by_cases hpl:pl<k
   ·have hplI:(pl:Int)<(k:Int):=by omega
    go_wp2_with fail
    go_ret2;exact HINV.o _ _ (by rw [HGS.o];exact HB2.o) (.inl ⟨hpl,rfl⟩)
   ·have hplI:¬(pl:Int)<(k:Int):=by omega
    go_wp2_with fail
    generalize hs2.map (fun h=>(⟨h.A,h.vs.length,h.c⟩:Hd))=hs3 at *
    go_loopw [52] (fun v52 wq=>∃ (i:Nat) (hs:List Hd),i≤k∧v52=.int .i64 i∧Below g w wq∧CutM wq wr.heap.size g2 k i hs L) (fun v52 _=>k-(intOf v52).toNat)
    case atStart=>exact ⟨0,hs3,by omega,rfl,HB2.o,HC2.o⟩
    case round=>
     clear HB2 HC2;obtain ⟨i,hsi,hi,rfl,hb,hc⟩:=hrel;have HB:=lH hb;have HC:=lH hc;clear hb hc
     by_cases hlt:i<k
     ·obtain ⟨q,hq⟩:∃ q,L[i]?=some q:=zX_ (by have:=HLL.o;omega)
      obtain ⟨h,hh,c⟩:=HC.o.get hq;obtain ⟨r1,r2,r3,r4⟩:=HC.o.row i h q hh hq;rw [if_neg (by omega)] at r1;have hhn:h.n=k+k:=by rw [←r1.len];exact HLW.o q (zC_ hq)
      obtain ⟨hA,hn2,hc2⟩:=h;simp only at c r1 r2 r3 r4 hhn;subst hhn;obtain ⟨b2,o2,hA2,hne2⟩:=r4 (by omega);subst hA2;have HR1:=lH (r1.drop (n:=k) (by omega));have HHH:=lH hh;have HQQ:=lH hq;have gl:=HC.o.top.lt;have gf:=HC.o.top.frozen;have hiI:(i:Int)<(k:Int):=by omega
      have HN1:=lN i;have HN2:Hid (k-(i+1)<k-i):=lH (by omega);clear r1 r4 hh hq;have hk0:0<k:=by omega
      have hkc:¬hc2=k:=by omega
      have hki:(k:Int)≤((k+k:Nat):Int):=by omega
      have hkz:=lZ k
      have hck:(k:Int)≤(hc2:Int):=by omega
      have hck2:((k+k:Nat):Int)≤(hc2:Int):=by omega
      have hkt:=zL_ k;rw [show k+k-k=k from by omega] at HR1;have HR2:Hid (k≤hc2-k∧hc2-k≤maxLen):=lH (by omega);have hsb:k+k-k=k:=by omega
      go_wp2_with fail
      go_roundw
      case rel=>exact ⟨i+1,_,hlt,val_int HN1.o,HB.o.setCell (zI_ HGG.o HC.o.gb) _,HC.o.step (h2:=⟨some ⟨b2,o2+k*4,none⟩,k,hc2-k⟩) HHH.o HQQ.o HR1.o HR2.o.1 HR2.o.2 (fun _=>⟨_,_,rfl,hne2⟩)⟩
      case measure=>exact HN2.o
     ·have hie:i=k:=by omega
      subst hie;have hiI:¬(i:Int)<(i:Int):=by omega
      go_wp2_with fail
      go_ret2;exact HINV.o _ _ (by rw [HGS.o];exact HB.o) (.inr ⟨hpl,g2,rfl,by rw [HGS.o];exact zI_ HGG.o HC.o.gb,by have h:=HC.o;rw [←HLL.o] at h;have h2:=h.rd;rwa [HLL.o] at h2⟩)
def susR (b:Br):Rat:=Rat.divInt 1000000 (b.x*b.tap)
def conR (b:Br):Rat:=susR b*Rat.divInt (-b.shift) 1000
def islN (x:Net):List Nat:=(islR x).map Int.toNat
def freeL (x:Net):List Nat:=pick (freeB (islN x)) (busN x)
def mFrom (x:Net):List Nat:=(brE x).map Prod.fst
def mTo (x:Net):List Nat:=(brE x).map Prod.snd
def mB (x:Net):List Rat:=x.brs.map susR
def mC (x:Net):List Rat:=x.brs.map conR
def addAt (A:List (List Rat)) (i j:Nat) (q:Rat):List (List Rat):=A.set i ((A.getD i []).set j (vf (A.getD i []) j+q))
def plc (free:List Nat) (u:Nat):Option Nat:=free.findIdx? (· == u)
def admStep (free:List Nat) (A:List (List Rat)) (b:Rat) (u v:Nat):List (List Rat):=
 if u=v then A else
  match plc free u,plc free v with
  | none,none=>A
  | some i,none=>addAt A i i b
  | none,some j=>addAt A j j b
  | some i,some j=>addAt (addAt (addAt (addAt A i i b) j j b) i j (-b)) j i (-b)
def admGo (free:List Nat):List Rat→List Nat→List Nat→List (List Rat)→List (List Rat)
 | b::bs,u::us,v::vs,A=>admGo free bs us vs (admStep free A b u v)
 | _,_,_,A=>A
def adm0 (n:Nat):List (List Rat):=List.replicate n (List.replicate n 0)
def admR (x:Net):List (List Rat):=admGo (freeL x) (mB x) (mFrom x) (mTo x) (adm0 (freeL x).length)
def mInv (x:Net):List (List Rat):=(redR (extR (admR x)) (freeL x).length).1.map (List.drop (freeL x).length)
def mReg (x:Net):Prop:=¬(redR (extR (admR x)) (freeL x).length).2.length<(freeL x).length
theorem addAt_len {A:List (List Rat)} {i j:Nat} {q:Rat}:(addAt A i j q).length=A.length:=by unfold addAt;rw [zU_]
theorem addAt_row {A:List (List Rat)} {i j:Nat} {q:Rat} {a:List Rat} (h:A[i]?=some a):addAt A i j q=A.set i (a.set j (vf a j+q)):=by
 unfold addAt;rw [zD_,h];rfl
theorem addAt_wid {A:List (List Rat)} {i j n:Nat} {q:Rat} (h:∀ a∈A,a.length=n) (hi:i<A.length):∀ a∈addAt A i j q,a.length=n:=fun a ha=>by
 obtain ⟨r,hr⟩:∃ r,A[i]?=some r:=⟨_,zA_ hi⟩;rw [addAt_row hr] at ha;rcases List.mem_or_eq_of_mem_set ha with h1 | h1
 ·exact h a h1
 ·rw [h1,zU_];exact h r (zC_ hr)
theorem addAt_bd {A:List (List Rat)} {i j K n:Nat} {q:Rat} (h:Bd K A) (hi:i<A.length) (hw:∀ a∈A,a.length=n) (hj:j<n) (hq:qsz q≤1):Bd (K+2) (addAt A i j q):=fun a ha x hx=>by
 obtain ⟨r,hr⟩:∃ r,A[i]?=some r:=⟨_,zA_ hi⟩;rw [addAt_row hr] at ha;rcases List.mem_or_eq_of_mem_set ha with h1 | h1
 ·exact zI_ (h a h1 x hx) (by omega)
 ·rw [h1] at hx
  rcases List.mem_or_eq_of_mem_set hx with h2 | h2
  ·exact zI_ (h r (zC_ hr) x h2) (by omega)
  ·have h3:=h.vf hr (j:=j) (by rw [hw r (zC_ hr)];exact hj)
   have h4:=add_qsz (vf r j) q;rw [h2];omega
theorem plc_lt {free:List Nat} {u i:Nat} (h:plc free u=some i):i<free.length∧free[i]?=some u:=by
 unfold plc at h;rw [List.findIdx?_eq_some_iff_getElem] at h;obtain ⟨h1,h2,_⟩:=h;refine ⟨h1,?_⟩;rw [zA_ h1];simpa using h2
theorem plc_ne {free:List Nat} {u v i j:Nat} (h:plc free u=some i) (h2:plc free v=some j) (hne:u≠v):i≠j:=by
 rintro rfl;have a:=(plc_lt h).2;have b:=(plc_lt h2).2;rw [a] at b;injection b with b;exact hne b
structure AdmOk (n K:Nat) (A:List (List Rat)):Prop where
 len:A.length=n
 wid:∀ a∈A,a.length=n
 bd:Bd K A
theorem AdmOk.add {n K i j:Nat} {A:List (List Rat)} {q:Rat} (h:AdmOk n K A) (hi:i<n) (hj:j<n) (hq:qsz q≤1):AdmOk n (K+2) (addAt A i j q):=
 ⟨addAt_len.trans h.len,addAt_wid h.wid (by rw [h.len];exact hi),addAt_bd h.bd (by rw [h.len];exact hi) h.wid hj hq⟩
theorem AdmOk.mono {n K K':Nat} {A:List (List Rat)} (h:AdmOk n K A) (hk:K≤K'):AdmOk n K' A:=⟨h.len,h.wid,h.bd.mono hk⟩
theorem adm0_ok (n:Nat):AdmOk n 3 (adm0 n):=by
 unfold adm0;refine ⟨zO_,fun a ha=>by rw [(List.mem_replicate.1 ha).2,zO_],fun a ha x hx=>?_⟩;rw [(List.mem_replicate.1 ha).2] at hx;rw [(List.mem_replicate.1 hx).2];decide+kernel
theorem sus_qsz {b:Br} (h:b.bad=false):qsz (susR b)≤1:=by
 have h1:1≤b.x∧b.x≤10000∧500≤b.tap∧b.tap≤1500:=by
  unfold Br.bad at h;simp only [Bool.or_eq_false_iff] at h;obtain ⟨⟨⟨⟨⟨a1,a2⟩,_⟩,_⟩,_⟩,_⟩:=h;unfold outB at a1 a2;have:=of_decide_eq_false a1;have:=of_decide_eq_false a2;omega
 obtain ⟨k,hk⟩:∃ k:Nat,b.x*b.tap=(k:Int):=⟨(b.x*b.tap).toNat,(Int.toNat_of_nonneg (Int.mul_nonneg (by omega) (by omega))).symm⟩;have hk1:b.x*b.tap≤10000*1500:=Int.mul_le_mul h1.2.1 h1.2.2.2 (by omega) (by omega);have hk2:1*500≤b.x*b.tap:=Int.mul_le_mul h1.1 h1.2.2.1 (by omega) (by omega);have hk0:k≠0:=by omega
 unfold susR qsz;rw [hk,(ratio_num 1000000 hk0).2,(ratio_abs 1000000 hk0).1];refine Nat.max_le.2 ⟨dlen_le ?_,dlen_le ?_⟩
 ·refine zT_ (Nat.div_le_self ..) ?_
  show _<4294967296^1;decide
 ·refine zT_ (Nat.div_le_self ..) ?_
  show _<4294967296^1;omega
theorem index_int (A:Option Addr) (n c:Nat) (zs:List Int) (z:Int) (w:World) (hr:RdI w w.heap.size A n zs) (hn:n≤9223372036854775807) :
    Calls Tryz.prog 158 #[.slice A n c,.int .i64 z] w fun e w'=>e=.returned (.int .i64 (idxGo (fun x=>decide (z=x)) zs 0))∧w=w':=by
 have hlen:=lH hr.len;go_enter Tryz.func158,Tryz.ntmps158
 go_wp2_with fail
 go_loop [5,8] (fun _ i=>∃ k:Nat,k≤n∧i=.int .i64 k∧idxGo (fun x=>decide (z=x)) zs 0=idxGo (fun x=>decide (z=x)) (zs.drop k) k) (fun _ i=>n-(intOf i).toNat)
 case atStart=>exact ⟨0,by omega,rfl,rfl⟩
 case round=>
  obtain ⟨k,hk,rfl,hidx⟩:=hrel;have HIDX:=lH hidx;clear hidx
  by_cases hlt:k<n
  ·obtain ⟨y,hy⟩:∃ y,zs[k]?=some y:=zX_ (by have:=hlen.out;omega)
   obtain ⟨b,off,rfl,hblt,-⟩:=hr.2 (by omega);have hcell:=hr.at_ hy;have HZ:=lH (drop_cons hy);clear hy
   by_cases hp:z=y
   ·subst hp
    go_wp2_with fail
    go_ret;exact ⟨ret_int (by rw [HIDX.o,HZ.o];simp [idxGo]),rfl⟩
   ·have HP:=lH hp
    go_wp2_with fail
    go_round
    case rel=>exact ⟨k+1,by omega,by go_num,by rw [HIDX.o,HZ.o];simp [idxGo,HP.o]⟩
    case measure=>simp [intOf];omega
  ·have hd:zs.drop k=[]:=by rw [List.drop_eq_nil_iff];have:=hlen.out;omega
   have HD:=lH hd;clear hd
   go_wp2_with fail
   go_ret;exact ⟨ret_int (by rw [HIDX.o,HD.o];rfl),rfl⟩
def optI (o:Option Nat):Int:=match o with | none=>-1 | some i=>(i:Int)
theorem idxGo_plc (free:List Nat) (u:Nat):idxGo (fun x=>decide ((u:Int)=x)) (natJ free) 0=optI (plc free u):=by
 have key:∀ (l:List Nat) (k:Nat),idxGo (fun x=>decide ((u:Int)=x)) (natJ l) k=optI ((l.findIdx? (· == u)).map (·+k)):=by
  intro l
  induction l with
  | nil=>intro k;rfl
  | cons a r ih=>
   intro k;rw [List.findIdx?_cons];show (if decide ((u:Int)=(a:Int)) then (k:Int) else idxGo _ (natJ r) (k+1))=_
   by_cases h:u=a
   ·subst h;simp [optI]
   ·have h1:¬((u:Int)=(a:Int)):=by omega
    have h2:(a == u)=false:=by simp;omega
    rw [decide_eq_false h1,ih (k+1),h2];simp only [Bool.false_eq_true,if_false];congr 1
    rw [Option.map_map];congr 1
    funext i
    simp;omega
 have:=key free 0;rw [this];unfold plc;congr 1
 cases free.findIdx? (· == u)<;>simp
structure ModH where
 A0:Option Addr
 n0:Nat
 c0:Nat
 A1:Option Addr
 n1:Nat
 c1:Nat
 A2:Option Addr
 n2:Nat
 c2:Nat
 A3:Option Addr
 n3:Nat
 c3:Nat
 A4:Option Addr
 n4:Nat
 c4:Nat
 A5:Option Addr
 n5:Nat
 c5:Nat
 A6:Option Addr
 n6:Nat
 c6:Nat
def ModH.cells (m:ModH) (v:Value):Array Value:=#[.slice m.A0 m.n0 m.c0,.slice m.A1 m.n1 m.c1,.slice m.A2 m.n2 m.c2,.slice m.A3 m.n3 m.c3,.slice m.A4 m.n4 m.c4,.slice m.A5 m.n5 m.c5,.slice m.A6 m.n6 m.c6,v]
structure RdMod (w:World) (B:Nat) (m:ModH) (x:Net):Prop where
 r0:RdI w B m.A0 m.n0 (busR x)
 r1:RdI w B m.A1 m.n1 (islR x)
 r2:RdI w B m.A2 m.n2 (natJ (mFrom x))
 r3:RdI w B m.A3 m.n3 (natJ (mTo x))
 r4:RdQ w B m.A4 m.n4 (mB x)
 r5:RdQ w B m.A5 m.n5 (mC x)
 r6:RdI w B m.A6 m.n6 (natJ (freeL x))
section
variable {w w':World} {B B':Nat} {m:ModH} {x:Net}
theorem RdMod.below (r:RdMod w B m x) (hb:Below B' w w') (h:B≤B'):RdMod w' B m x:=⟨r.r0.below hb h,r.r1.below hb h,r.r2.below hb h,r.r3.below hb h,r.r4.below hb h,r.r5.below hb h,r.r6.below hb h⟩
theorem RdMod.more (r:RdMod w B m x) (h:B≤B'):RdMod w B' m x:=⟨r.r0.more h,r.r1.more h,r.r2.more h,r.r3.more h,r.r4.more h,r.r5.more h,r.r6.more h⟩
theorem RdMod.up (r:RdMod w w.heap.size m x) (hb:Below w.heap.size w w'):RdMod w' w'.heap.size m x:=(r.below hb lR).more hb.size
end
theorem natJ_len (l:List Nat):(natJ l).length=l.length:=by unfold natJ;rw [zG_]
theorem natJ_at {l:List Nat} {i u:Nat} (h:l[i]?=some u):(natJ l)[i]?=some (u:Int):=by unfold natJ;rw [zM_,h];rfl
theorem mFrom_len (x:Net):(mFrom x).length=x.brs.length:=by unfold mFrom brE;rw [zG_,zG_]
theorem mTo_len (x:Net):(mTo x).length=x.brs.length:=by unfold mTo brE;rw [zG_,zG_]
theorem mB_len (x:Net):(mB x).length=x.brs.length:=by unfold mB;rw [zG_]
theorem mC_len (x:Net):(mC x).length=x.brs.length:=by unfold mC;rw [zG_]
theorem place_any (g:Nat) (m:ModH) (v:Value) (free:List Nat) (u:Nat) (w:World) (hb:Blk w g 122 (m.cells v)) (hr:RdI w w.heap.size m.A6 m.n6 (natJ free)) (hn:m.n6≤9223372036854775807) :
    Calls Tryz.prog 127 #[.pointer (some ⟨g,0,none⟩),.int .i64 (u:Int)] w fun e w'=>e=.returned (.int .i64 (optI (plc free u)))∧w=w':=by
 have c6:=hb.cell 6;have hl:=hb.lt;have HC:=lH (index_int m.A6 m.n6 m.c6 (natJ free) (u:Int) w hr hn);rw [idxGo_plc] at HC;obtain ⟨A0,n0,c0,A1,n1,c1,A2,n2,c2,A3,n3,c3,A4,n4,c4,A5,n5,c5,A6,n6,k6⟩:=m;simp only [ModH.cells] at c6 HC;clear hb hr;go_enter Tryz.func127,Tryz.ntmps127
 go_wp2_with fail
 refine HC.o.mono ?_;rintro e w' ⟨rfl,rfl⟩
 go_wp2_with fail
 go_ret;exact ⟨rfl,rfl⟩
theorem zer_row {w:World} {base g gz n:Nat} {v:Rv} (hb:Blk w gz 115 (rvs (List.replicate n v)).toArray) (hv:RtV w w.heap.size 0 v) (h1:base≤gz) (h2:gz≠g) (hn:n≤1000000):MRow w base g ⟨some ⟨gz,0,none⟩,gz,n,List.replicate n v⟩ (List.replicate n 0):=
 ⟨by simp,by simp,by simp only [maxLen];omega,rep_ok hv,fun _=>⟨rfl,h1,h2,_,hb,by rw [zO_];show (rvs (List.replicate n v)).take (n*4)=_;rw [zH_ (by rw [rvs_len,zO_];exact lR)]⟩⟩
theorem zer_set {n k:Nat} (hk:k<n):((adm0 n).take k++List.replicate (n-k) []).set k (List.replicate n 0)=(adm0 n).take (k+1)++List.replicate (n-(k+1)) []:=
 fill_set (by unfold adm0;rw [zO_]) (by unfold adm0;rw [List.getElem?_replicate,if_pos hk])
theorem RdMod.bm {w w':World} {m:ModH} {x:Net} (r:RdMod w w.heap.size m x) (g:Below w.heap.size w w'):RdMod w' w'.heap.size m x:=(r.below g lR).more g.size
theorem mod_slices {m:ModH} {A:Option Addr} {n c i:Nat} {u:Value} (h:(m.cells (.slice A n c))[i]?=some u):∃ A' n' c',u=.slice A' n' c':=by
 have h2:u∈(m.cells (.slice A n c)).toList:=Array.mem_toList_iff.2 (Array.mem_of_getElem? h);simp only [ModH.cells,List.mem_cons,List.not_mem_nil,or_false] at h2;rcases h2 with rfl | rfl | rfl | rfl | rfl | rfl | rfl | rfl<;>exact ⟨_,_,_,rfl⟩
section
variable {w:World} {g T:Nat} {m:ModH} {A:Option Addr} {k c:Nat}
theorem RdI.keepm {B n:Nat} {A0:Option Addr} {zs:List Int} (h:RdI w B A0 n zs) (hb:Blk w g T (m.cells (.slice A k c))) (i:Nat) (u:Value):RdI (w.setCell ⟨g,i,none⟩ u) B A0 n zs:=by
 refine ⟨h.1,fun hn=>?_⟩;obtain ⟨b,off,e,hlt,hc⟩:=h.2 hn;refine ⟨b,off,e,hlt,fun j v hv=>?_⟩;have h1:=hc j v hv;rw [World.cell?_setCell_other]
 ·exact h1
 ·rintro e2
  injection e2 with e2;subst e2;rw [hb.cell] at h1;obtain ⟨A',n',c',rfl⟩:=mod_slices h1;unfold ints at hv;rw [zM_] at hv;obtain ⟨z,_,hz⟩:=Option.map_eq_some_iff.1 hv;cases hz
theorem RtV.keepm {q:Rat} {x:Rv} (h:RtV w w.heap.size q x) (hb:Blk w g T (m.cells (.slice A k c))) {i:Nat} (hi:i<8) (u:Value):RtV (w.setCell ⟨g,i,none⟩ u) (w.setCell ⟨g,i,none⟩ u).heap.size q x:=by
 obtain ⟨y,hy⟩:∃ y,(m.cells (.slice A k c))[i]?=some y:=⟨_,Array.getElem?_eq_getElem (by show i<8;exact hi)⟩;obtain ⟨A',n',c',rfl⟩:=mod_slices hy;have h0:RtIs w w.heap.size q x.b1 x.A x.n x.c x.b2 x.A2 x.m x.d:=h;exact RtIs.keep h0 (v:=.slice A' n' c') (by rw [hb.cell];exact hy) (fun a b e=>by cases e) u
theorem RdQ.keepm {n:Nat} {A0:Option Addr} {qs:List Rat} (h:RdQ w w.heap.size A0 n qs) (hb:Blk w g T (m.cells (.slice A k c))) {i:Nat} (hi:i<8) (u:Value):RdQ (w.setCell ⟨g,i,none⟩ u) (w.setCell ⟨g,i,none⟩ u).heap.size A0 n qs:=by
 obtain ⟨vs,h1,h2,h3,h4⟩:=h;refine ⟨vs,h1,h2,⟨h3.1,fun hn=>?_⟩,fun j q v hq hv=>(h4 j q v hq hv).keepm hb hi u⟩;obtain ⟨b,off,e,hlt,hc⟩:=h3.2 hn;have hbg:b≠g:=by
  rintro rfl;obtain ⟨v,hv⟩:∃ v,vs[0]?=some v:=zX_ (by omega);have:=hc 0 (.bool v.b1) (by have h5:=rvs_at hv 0 (by decide);simpa [Rv.cells] using h5);rw [Nat.add_zero,hb.cell] at this;obtain ⟨A',n',c',e⟩:=mod_slices this;cases e
 refine ⟨b,off,e,by simpa [World.setCell] using hlt,fun j v hv=>?_⟩;rw [World.cell?_setCell_other _ _ _ _ (fun e2=>hbg (by injection e2 with e2;exact e2.symm))];exact hc j v hv
theorem RdM.keepm {n:Nat} {A0:Option Addr} {M:List (List Rat)} (h:RdM w w.heap.size A0 n M) (hb:Blk w g T (m.cells (.slice A k c))) (hA:∀ b off,A0=some ⟨b,off,none⟩→b≠g) {i:Nat} (hi:i<8) (u:Value):RdM (w.setCell ⟨g,i,none⟩ u) (w.setCell ⟨g,i,none⟩ u).heap.size A0 n M:=by
 obtain ⟨hs,h1,h2,h3,h4⟩:=h;refine ⟨hs,h1,h2,⟨h3.1,fun hn=>?_⟩,fun j z q hz hq=>⟨(h4 j z q hz hq).1.keepm hb hi u,(h4 j z q hz hq).2⟩⟩;obtain ⟨b,off,e,hlt,hc⟩:=h3.2 hn;refine ⟨b,off,e,by simpa [World.setCell] using hlt,fun j v hv=>?_⟩;rw [World.cell?_setCell_other _ _ _ _ (fun e2=>hA b off e (by injection e2 with e2;exact e2.symm))];exact hc j v hv
theorem RdMod.keepm {m':ModH} {x:Net} (h:RdMod w w.heap.size m' x) (hb:Blk w g T (m.cells (.slice A k c))) {i:Nat} (hi:i<8) (u:Value):RdMod (w.setCell ⟨g,i,none⟩ u) (w.setCell ⟨g,i,none⟩ u).heap.size m' x:=by
 have hs:(w.setCell ⟨g,i,none⟩ u).heap.size=w.heap.size:=by simp [World.setCell]
 refine ⟨?_,?_,?_,?_,h.r4.keepm hb hi u,h.r5.keepm hb hi u,?_⟩<;>rw [hs]
 ·exact h.r0.keepm hb i u
 ·exact h.r1.keepm hb i u
 ·exact h.r2.keepm hb i u
 ·exact h.r3.keepm hb i u
 ·exact h.r6.keepm hb i u
end
theorem MatS.keepv {B0 g:Nat} {w0 wr:World} {v:Value} {piv:List Nat} {hs:List Mh} {L:List (List Rat)} (m:MatS B0 g w0 wr v piv hs L) {i j:Nat} {h:Mh} {q:List Rat} {x u:Rv} {z:Rat} (hh:hs[i]?=some h) (hq:L[i]?=some q) (hj:j<q.length) (hu:RtV wr wr.heap.size z u):RtV (putV wr h.g j x) (putV wr h.g j x).heap.size z u:=by
 have hr:=m.own.row i h q hh hq;obtain ⟨h1,h2,h3,cs,h4,h5⟩:=hr.lies (by omega);obtain ⟨y,hy⟩:∃ y,h.vs[j]?=some y:=zX_ (by rw [hr.len];exact hj);exact RtV.keep4 hu x h4 h5 hy
def InvtP (g:Nat) (m:ModH) (x:Net) (w:World) (e:Ending) (w':World):Prop:=e=.returned (.tuple #[])∧w.grownBy w' (some g)∧RdMod w' w'.heap.size m x∧∃ A n c,Blk w' g 122 (m.cells (.slice A n c))∧(mReg x→n=(freeL x).length∧RdM w' w'.heap.size A n (mInv x))
theorem freeL_len {x:Net} (ok:NetOk x) (h8:x.nodes.length≤8):(freeL x).length≤8:=by
 unfold freeL pick;refine zI_ (List.length_filter_le _ _) ?_;rw [List.length_range];exact zI_ (busN_ok ok).2 h8
theorem admGo_cons {free:List Nat} {B:List Rat} {F G:List Nat} {A:List (List Rat)} {k u v:Nat} {b:Rat} (h1:B[k]?=some b) (h2:F[k]?=some u) (h3:G[k]?=some v):admGo free (B.drop k) (F.drop k) (G.drop k) A=admGo free (B.drop (k+1)) (F.drop (k+1)) (G.drop (k+1)) (admStep free A b u v):=by
 rw [drop_cons h1,drop_cons h2,drop_cons h3];rfl
theorem invert_any (g:Nat) (m:ModH) (x:Net) (ok:NetOk x) (h8:x.nodes.length≤8) (w:World) (hb:Blk w g 122 (m.cells (.slice none 0 0))) (r:RdMod w w.heap.size m x) :
    Calls Tryz.prog 93 #[.pointer (some ⟨g,0,none⟩)] w (InvtP g m x w):=by
 have HG:=lH hb;have HR:=lH r;have HN6:Hid ((freeL x).length=m.n6):=lH (by rw [←natJ_len];exact r.r6.len);have HN4:Hid (x.brs.length=m.n4):=lH (by rw [←mB_len];exact r.r4.len);have HN2:Hid (x.brs.length=m.n2):=lH (by rw [←mFrom_len,←natJ_len];exact r.r2.len);have HN3:Hid (x.brs.length=m.n3):=lH (by rw [←mTo_len,←natJ_len];exact r.r3.len);have h6:m.n6≤8:=by rw [←HN6.o];exact freeL_len ok h8
 have h4:m.n4≤24:=by rw [←HN4.o];exact ok.l2
 have HSB:Hid (∀ q∈mB x,qsz q≤1):=lH fun q hq=>by
  unfold mB at hq;obtain ⟨b,hb,rfl⟩:=List.mem_map.1 hq;exact sus_qsz (ok.br b hb).2.2.2
 have HPL:Hid (∀ (u:Nat) (w':World),Below w.heap.size w w'→Calls Tryz.prog 127 #[.pointer (some ⟨g,0,none⟩),.int .i64 (u:Int)] w' fun e w''=>e=.returned (.int .i64 (optI (plc (freeL x) u)))∧w''=w'):=lH fun u w' hb'=>
  (place_any g m _ (freeL x) u w' (HG.o.bl hb') (r.r6.bm hb') (by omega)).mono fun e w'' h=>⟨h.1,h.2.symm⟩
 clear hb r ok h8;have y6:=HG.o.cell 6;have yl:=HG.o.lt;have hmk:∀ w:World,(Instr.makeSlice 92 (.int .i64 (m.n6:Int)) (.int .i64 (m.n6:Int))).run Tryz.prog w=.ok (.slice (some ⟨w.heap.size,0,none⟩) m.n6 m.n6) (w.alloc (.cells (nilRows m.n6) 93)):=fun w=>make_rows m.n6 (by omega) w;have HK:=lH ((Below.refl w.heap.size w).alloc lR (.cells (nilRows m.n6) 93));have HGM:=lH (Blk.new w 93 (nilRows m.n6));obtain ⟨A0,n0,c0,A1,n1,c1,A2,n2,c2,A3,n3,c3,A4,n4,c4,A5,n5,c5,A6,n6,c6⟩:=m;simp only [ModH.cells] at HG y6 hmk HK HGM HN6 HN4 HN2 HN3 h6 h4;go_enter Tryz.func93,Tryz.ntmps93
 go_wp2_with fail
 clear hmk;generalize w.alloc (.cells (nilRows n6) 93)=W at *;have HO:=lH (ownM_made HGM.o lR);generalize hga:w.heap.size=ga at *;have HGA:=lH hga;clear hga HGM
 go_loopw [18] (fun v18 wr=>∃ (k:Nat) (hs:List Mh),k≤n6∧v18=.int .i64 k∧Below ga w wr∧OwnM wr ga ga hs ((adm0 n6).take k++List.replicate (n6-k) [])) (fun v18 _=>n6-(intOf v18).toNat)
 case atStart=>exact ⟨0,_,by omega,rfl,HK.o,by rw [List.take_zero,List.nil_append,Nat.sub_zero];exact HO.o⟩
 case round=>
  clear HK HO;obtain ⟨k,hs,hk,rfl,hb,ho⟩:=hrel;have HK:=lH hb;have HO:=lH ho;clear hb ho
  by_cases hlt:k<n6
  ·have hkI:(k:Int)<(n6:Int):=by omega
   have HNX:=lN k;have HNM:Hid (n6-(k+1)<n6-k):=lH (by omega);have HGL:Hid (ga<wr.heap.size):=lH HO.o.top.lt;clear y6 yl
   go_wp2_with fail
   refine (zeros_any n6 wr (by omega)).mono ?_;rintro e w7 ⟨hb7,gz,vz,rfl,hgz,hbz,hvz⟩;have HO8:=lH (HO.o.up hb7);have HRW:Hid (MRow w7 ga ga ⟨some ⟨gz,0,none⟩,gz,n6,List.replicate n6 vz⟩ (List.replicate n6 0)):=lH (zer_row hbz hvz (by have:=HGL.o;omega) (by have:=HGL.o;omega) (by omega));have HBW:=lH (HK.o.trans (hb7.mono (zQ_ HGL.o)));have HFR:Hid (∀ j (h':Mh),j≠k→hs[j]?=some h'→0<h'.vs.length→0<(List.replicate n6 vz).length→h'.g≠gz):=lH fun j h' _ hh l1 l2=>by
    have h3:=HO.o.lt hh l1;omega
   clear hb7 hbz hvz hgz HK HO;have gl:=HO8.o.top.lt;have gf:=HO8.o.top.frozen;have HKL:Hid (k<(((adm0 n6).take k++List.replicate (n6-k) []):List (List Rat)).length):=lH (by simp [adm0];omega);obtain ⟨gv,gc⟩:∃ gv,w7.cell? ⟨ga,k,none⟩=some gv:=by
    rw [HO8.o.top.cell];exact ⟨_,Array.getElem?_eq_getElem (by rw [List.size_toArray,zG_,HO8.o.len];exact HKL.o)⟩
   have HO9:=lH (HO8.o.setRow HKL.o HRW.o HFR.o);rw [zer_set hlt,zO_] at HO9
   go_wp2_with fail
   go_roundw
   case rel=>exact ⟨k+1,_,hlt,val_int HNX.o,HBW.o.setCell lR _,HO9.o⟩
   case measure=>exact HNM.o
  ·have hke:k=n6:=by omega
   have HO1:Hid (OwnM wr ga ga hs (adm0 n6)):=lH (by
    have h:=HO.o;rw [hke,Nat.sub_self,List.replicate_zero,List.append_nil,zH_ (by unfold adm0;rw [zO_];exact lR)] at h;exact h)
   have hkI:¬(k:Int)<(n6:Int):=by omega
   have HGW:Hid (Below w.heap.size w wr):=lH (by rw [HGA.o];exact HK.o);have HG1:=lH (HG.o.bl HGW.o);have y4:=HG1.o.cell 4;have yl1:=HG1.o.lt;clear y6 yl HO hke
   go_wp2_with fail
   clear y4 yl1 HGW HG1;generalize wr=wz at *
   go_loopw [32] (fun v32 wr=>∃ (k:Nat) (hs:List Mh) (A:List (List Rat)),k≤n4∧v32=.int .i64 k∧MatS ga ga w wr (.slice none 0 0) [] hs A∧AdmOk n6 (3+8*k) A∧admGo (freeL x) ((mB x).drop k) ((mFrom x).drop k) ((mTo x).drop k) A=admR x) (fun v32 _=>n4-(intOf v32).toNat)
   case atStart=>exact ⟨0,hs,adm0 n6,by omega,rfl,⟨HO1.o,ownS_none _ _ _ _ _,HK.o⟩,adm0_ok n6,by unfold admR;rw [HN6.o];rfl⟩
   case round=>
    clear HK HO1;obtain ⟨k,hs,A,hk,rfl,ho,hok,hgo⟩:=hrel;have hb:=ho.low;have HMA:=lH ho;have HOK:=lH hok;have HGO:=lH hgo;have HW:Hid (Below w.heap.size w wr):=lH (by rw [HGA.o];exact hb);have HRW:=lH ((HR.o.below hb lR).more (zQ_ ho.own.top.lt));have HG1:=lH (HG.o.bl HW.o);clear hb ho hok hgo
    by_cases hlt:k<n4
    ·obtain ⟨q,hq⟩:∃ q,(mB x)[k]?=some q:=zX_ (by rw [mB_len];have:=HN4.o;omega)
     obtain ⟨u,hu⟩:∃ u,(mFrom x)[k]?=some u:=zX_ (by rw [mFrom_len];have:=HN4.o;omega);obtain ⟨v,hv⟩:∃ v,(mTo x)[k]?=some v:=zX_ (by rw [mTo_len];have:=HN4.o;omega);have HST:=lH (admGo_cons (free:=freeL x) (A:=A) hq hu hv);rw [HGO.o] at HST;have HQZ:=lH (HSB.o q (zC_ hq));have hr4:=HRW.o.r4;have hr2:=HRW.o.r2;have hr3:=HRW.o.r3;simp only at hr4 hr2 hr3;obtain ⟨ab,ao,hA1,hab⟩:=hr4.form (by omega);subst hA1;obtain ⟨xr,a0,a1,a2,a3,a4⟩:=hr4.at_ hq;have HX:=lH a4;obtain ⟨fb,fo,hA2,hfb,-⟩:=hr2.2 (by have:=HN2.o;have:=HN4.o;omega);subst hA2;have f0:=hr2.at_ (natJ_at hu);obtain ⟨tb,to2,hA3,htb,-⟩:=hr3.2 (by have:=HN3.o;have:=HN4.o;omega);subst hA3;have t0:=hr3.at_ (natJ_at hv);have hkI:(k:Int)<(n4:Int):=by omega
     have hk2:k<n2:=by have:=HN2.o;have:=HN4.o;omega
     have hk3:k<n3:=by have:=HN3.o;have:=HN4.o;omega
     have hk2I:(k:Int)<(n2:Int):=by omega
     have hk3I:(k:Int)<(n3:Int):=by omega
     have hk0:=lZ k
     have hkn:=zL_ k;have HNX:=lN k;have HNM:Hid (n4-(k+1)<n4-k):=lH (by omega);have HGWL:Hid (ga<wr.heap.size):=lH HMA.o.own.top.lt;clear hq hu hv a4 hr4 hr2 hr3
     go_upto_region 10 with fail
     clear a0 a1 a2 a3;generalize hwa:wr.alloc (.cells #[.bool xr.b1,.slice xr.A xr.n xr.c,.bool xr.b2,.slice xr.A2 xr.m xr.d] 115)=wa;have hba:Below wr.heap.size wr wa:=by rw [←hwa];exact bA
     have HSX:Hid (Blk wa wr.heap.size 115 #[.bool xr.b1,.slice xr.A xr.n xr.c,.bool xr.b2,.slice xr.A2 xr.m xr.d]):=lH (by rw [←hwa];exact Blk.new wr _ _);have HBX:Hid (BoxS wa ga wr.heap.size hs q xr):=lH ⟨HSX.o,HX.o.up hba,fun i h hh l=>HMA.o.own.lt hh l⟩;replace HMA:=lH (HMA.o.up hba);replace HG1:=lH (HG1.o.bl hba);have f0':=(hba.cell (p:=⟨fb,fo+k,none⟩) hfb).trans f0;have t0':=(hba.cell (p:=⟨tb,to2+k,none⟩) htb).trans t0;have hfl:fb<wa.heap.size:=zJ_ hfb hba.size;have htl:tb<wa.heap.size:=zJ_ htb hba.size;clear f0 t0 hfb htb HRW hwa hba HSX HX;generalize hgx:wr.heap.size=gx at *;have HGX:=lH hgx;clear hgx
     have HPA:Hid (∀ (u N:Nat),Calls Tryz.prog 127 #[.pointer (some ⟨g,0,none⟩),.int .i64 (u:Int)] (wa.drewN N) fun e w''=>e=.returned (.int .i64 (optI (plc (freeL x) u)))∧w''=wa.drewN N):=lH fun u N=>HPL.o u (wa.drewN N) (below_drewN HMA.o.low N);have y2:=HG1.o.cell 2;have y3:=HG1.o.cell 3;have yl:=HG1.o.lt
     go_quiet ((first | (go_at_call_of 127 (Value.int .i64 (u:Int));exact (HPA.o u _).mono (fun _ _ hh=>⟨hh.1,_,hh.2⟩)) | (go_at_call_of 127 (Value.int .i64 (v:Int));exact (HPA.o v _).mono (fun _ _ hh=>⟨hh.1,_,hh.2⟩))))
     replace HMA:=lH (HMA.o.up (below_drewN bR nq));replace HBX:=lH (HBX.o.up (below_drewN bR nq));clear HPA;replace HG1:=lH (HG1.o.drewN nq);have f0:(wa.drewN nq).cell? ⟨fb,fo+k,none⟩=some (.int .i64 (u:Int)):=f0';have t0:(wa.drewN nq).cell? ⟨tb,to2+k,none⟩=some (.int .i64 (v:Int)):=t0';have hfl2:fb<(wa.drewN nq).heap.size:=hfl;have htl2:tb<(wa.drewN nq).heap.size:=htl;clear f0' t0' hfl htl y2 y3 yl;generalize wa.drewN nq=wd at *;have y2:=HG1.o.cell 2;have y3:=HG1.o.cell 3;have yl:=HG1.o.lt
     by_cases huv:u=v
     ·subst huv
      have HSA:Hid (admStep (freeL x) A q u u=A):=lH (by unfold admStep;rw [if_pos rfl]);rw [HSA.o] at HST
      go_wp2_with fail
      go_quiet (fail)
      go_wp2_with fail
      go_roundw
      case rel=>exact ⟨k+1,hs,A,hlt,val_int HNX.o,HMA.o.up (below_drewN bR _),HOK.o.mono (by omega),HST.o.symm⟩
      case measure=>exact HNM.o
     ·have huvI:¬((u:Int)=(v:Int)):=by omega
      have huvB:((u:Int) == (v:Int))=false:=by simp;omega
      go_wp2_with fail
      go_quiet (fail)
      clear f0 t0 hfl2 htl2 y2 y3 yl huvI huvB;replace HMA:=lH (HMA.o.up (below_drewN bR nq));replace HBX:=lH (HBX.o.up (below_drewN bR nq));clear HG1;generalize wd.drewN nq=we at *;have HFL:=lH HN6.o;cases hpu:plc (freeL x) u with
      | none=>
       cases hpv:plc (freeL x) v with
       | none=>
        have HSA:Hid (admStep (freeL x) A q u v=A):=lH (by unfold admStep;rw [if_neg huv,hpu,hpv]);rw [HSA.o] at HST;rw [(show optI (none:Option Nat)=-1 from rfl)]
        go_wp2_with fail
        go_roundw
        case rel=>exact ⟨k+1,hs,A,hlt,val_int HNX.o,HMA.o,HOK.o.mono (by omega),HST.o.symm⟩
        case measure=>exact HNM.o
       | some j=>
        have hi:=(plc_lt hpv).1;rw [HFL.o] at hi;have HSA:Hid (admStep (freeL x) A q u v=addAt A j j q):=lH (by unfold admStep;rw [if_neg huv,hpu,hpv]);rw [HSA.o] at HST;rw [(show optI (none:Option Nat)=-1 from rfl),show optI (some j)=(j:Int) from rfl];have hiI:(j:Int)<(n6:Int):=by omega
        have hi0:=lZ j
        clear hpu hpv HSA
        go_upto_region 15 with fail
        obtain ⟨ra,hra⟩:∃ ra,A[j]?=some ra:=zX_ (by have:=HOK.o.len;omega);have hral:ra.length=n6:=HOK.o.wid ra (zC_ hra);obtain ⟨gg,cc,vs,xe,hh,c,hx,c0,c1,c2',c3',hv,l1,f1,hne⟩:=HMA.o.elem (i:=j) (j:=j) hra (by omega);rw [hral] at c;have HH:=lH hh;have HXX:=lH hx;have HVV:=lH hv;have HRA:=lH hra;have HRL:=lH hral;have HQS:Hid (qsz (vf ra j)+qsz q+1≤35184372088832):=lH (by have:=HOK.o.bd.vf hra (j:=j) (by omega);have:=HQZ.o;omega);have gl:=HMA.o.own.top.lt;have z0:=HBX.o.blk.cell 0;have z1:=HBX.o.blk.cell 1;have z2:=HBX.o.blk.cell 2;have z3:=HBX.o.blk.cell 3;have zl:=HBX.o.blk.lt;have HB4:=lH (below_drew (Below.refl we.heap.size we));have hixI:(j:Int)<(n6:Int):=by omega
        have hix0:=lZ j
        have hixn:=zL_ j;clear hh hx hv hra hral;refine wp_region_last (S:=fun w'=>Below we.heap.size we w') 15 _ (by kernel_rfl) (by kernel_rfl) rfl (below_drew bR) (fun hHeld=>?_);simp only [zK_,List.take_zero];refine tkH 0 rfl ?_;refine tkH 1 rfl ?_;refine tkH 2 rfl ?_;refine tkH 3 rfl ?_;refine tkH 4 rfl ?_;refine tkH 5 rfl ?_;refine tkH 6 rfl ?_;refine tkH 7 rfl ?_;refine tkH 8 rfl ?_;refine tkH 9 rfl ?_;refine tkH 10 rfl ?_;refine tkH 11 rfl ?_;refine tkH 12 rfl ?_;refine stepH 13 (by kernel_rfl) rfl (fun K hK=>?_);go_simp;refine (addV (HVV.o.up HB4.o) (HBX.o.val.up HB4.o) HQS.o).mono ?_;rintro e w8 ⟨hb8,v8,rfl,h8⟩;have HB8:Hid (Below we.heap.size we w8):=lH (HB4.o.tm hb8);have H8:=lH h8;clear hb8 h8;go_simp;refine hK.out _ _ ?_ (fun hHeld=>?_)
        ·exact HB8.o
        clear hK K
        try simp only [Act.put,sA_,sB_,sC_]
        refine tkH 14 rfl ?_;refine wpAnyH_done (by kernel_rfl) ?_ _;refine lastQ_go (by rfl) ?_;clear hHeld;have HM8:=lH (HMA.o.up HB8.o);have HX8:=lH (HBX.o.up HB8.o);clear c c0 c1 c2' c3' l1 f1 hne gl z0 z1 z2 z3 zl HMA HBX HVV HQS HB4;obtain ⟨c0,c1,c2',c3',l1,f1⟩:=HM8.o.elem2 HH.o HRA.o HXX.o
        go_upto_region 16 with fail
        clear c0 c1 c2' c3' l1 f1;have HMA:=HM8.o.put HH.o HRA.o (j:=j) (x:=v8) (by rw [HRL.o];omega) H8.o;have HBX:=HX8.o.put HM8.o HH.o HRA.o (j:=j) (x:=v8) (by rw [HRL.o];omega);rw [←addAt_row HRA.o] at HMA;replace HOK:Hid (AdmOk n6 (3+8*k+2) (addAt A j j q)):=lH (HOK.o.add (by omega) (by omega) HQZ.o);simp only [putV] at HMA HBX;generalize (((w8.setCell ⟨gg,j*4,none⟩ _).setCell ⟨gg,j*4+1,none⟩ _).setCell ⟨gg,j*4+2,none⟩ _).setCell ⟨gg,j*4+3,none⟩ _=wf at *;replace HMA:=lH HMA;replace HBX:=lH HBX;generalize hs.set j _=hs1 at *;obtain ⟨A1,hA1⟩:∃ A1,addAt A j j q=A1:=⟨_,rfl⟩;rw [hA1] at HMA HOK;have HA1:=lH hA1;clear hA1 HM8 HX8 H8 HB8 HH HRA HRL HXX hixI hix0 hixn;rw [HA1.o] at HST
        go_wp2_with fail
        go_roundw
        case rel=>exact ⟨k+1,hs1,A1,hlt,val_int HNX.o,HMA.o,HOK.o.mono (by omega),HST.o.symm⟩
        case measure=>exact HNM.o
      | some i=>
       cases hpv:plc (freeL x) v with
       | none=>
        have hi:=(plc_lt hpu).1;rw [HFL.o] at hi;have HSA:Hid (admStep (freeL x) A q u v=addAt A i i q):=lH (by unfold admStep;rw [if_neg huv,hpu,hpv]);rw [HSA.o] at HST;rw [(show optI (none:Option Nat)=-1 from rfl),show optI (some i)=(i:Int) from rfl];have hiI:(i:Int)<(n6:Int):=by omega
        have hi0:=lZ i
        clear hpu hpv HSA
        go_upto_region 13 with fail
        obtain ⟨ra,hra⟩:∃ ra,A[i]?=some ra:=zX_ (by have:=HOK.o.len;omega);have hral:ra.length=n6:=HOK.o.wid ra (zC_ hra);obtain ⟨gg,cc,vs,xe,hh,c,hx,c0,c1,c2',c3',hv,l1,f1,hne⟩:=HMA.o.elem (i:=i) (j:=i) hra (by omega);rw [hral] at c;have HH:=lH hh;have HXX:=lH hx;have HVV:=lH hv;have HRA:=lH hra;have HRL:=lH hral;have HQS:Hid (qsz (vf ra i)+qsz q+1≤35184372088832):=lH (by have:=HOK.o.bd.vf hra (j:=i) (by omega);have:=HQZ.o;omega);have gl:=HMA.o.own.top.lt;have z0:=HBX.o.blk.cell 0;have z1:=HBX.o.blk.cell 1;have z2:=HBX.o.blk.cell 2;have z3:=HBX.o.blk.cell 3;have zl:=HBX.o.blk.lt;have HB4:=lH (below_drew (Below.refl we.heap.size we));have hixI:(i:Int)<(n6:Int):=by omega
        have hix0:=lZ i
        have hixn:=zL_ i;clear hh hx hv hra hral;refine wp_region_last (S:=fun w'=>Below we.heap.size we w') 15 _ (by kernel_rfl) (by kernel_rfl) rfl (below_drew bR) (fun hHeld=>?_);simp only [zK_,List.take_zero];refine tkH 0 rfl ?_;refine tkH 1 rfl ?_;refine tkH 2 rfl ?_;refine tkH 3 rfl ?_;refine tkH 4 rfl ?_;refine tkH 5 rfl ?_;refine tkH 6 rfl ?_;refine tkH 7 rfl ?_;refine tkH 8 rfl ?_;refine tkH 9 rfl ?_;refine tkH 10 rfl ?_;refine tkH 11 rfl ?_;refine tkH 12 rfl ?_;refine stepH 13 (by kernel_rfl) rfl (fun K hK=>?_);go_simp;refine (addV (HVV.o.up HB4.o) (HBX.o.val.up HB4.o) HQS.o).mono ?_;rintro e w8 ⟨hb8,v8,rfl,h8⟩;have HB8:Hid (Below we.heap.size we w8):=lH (HB4.o.tm hb8);have H8:=lH h8;clear hb8 h8;go_simp;refine hK.out _ _ ?_ (fun hHeld=>?_)
        ·exact HB8.o
        clear hK K
        try simp only [Act.put,sA_,sB_,sC_]
        refine tkH 14 rfl ?_;refine wpAnyH_done (by kernel_rfl) ?_ _;refine lastQ_go (by rfl) ?_;clear hHeld;have HM8:=lH (HMA.o.up HB8.o);have HX8:=lH (HBX.o.up HB8.o);clear c c0 c1 c2' c3' l1 f1 hne gl z0 z1 z2 z3 zl HMA HBX HVV HQS HB4;obtain ⟨c0,c1,c2',c3',l1,f1⟩:=HM8.o.elem2 HH.o HRA.o HXX.o
        go_upto_region 14 with fail
        clear c0 c1 c2' c3' l1 f1;have HMA:=HM8.o.put HH.o HRA.o (j:=i) (x:=v8) (by rw [HRL.o];omega) H8.o;have HBX:=HX8.o.put HM8.o HH.o HRA.o (j:=i) (x:=v8) (by rw [HRL.o];omega);rw [←addAt_row HRA.o] at HMA;replace HOK:Hid (AdmOk n6 (3+8*k+2) (addAt A i i q)):=lH (HOK.o.add (by omega) (by omega) HQZ.o);simp only [putV] at HMA HBX;generalize (((w8.setCell ⟨gg,i*4,none⟩ _).setCell ⟨gg,i*4+1,none⟩ _).setCell ⟨gg,i*4+2,none⟩ _).setCell ⟨gg,i*4+3,none⟩ _=wf at *;replace HMA:=lH HMA;replace HBX:=lH HBX;generalize hs.set i _=hs1 at *;obtain ⟨A1,hA1⟩:∃ A1,addAt A i i q=A1:=⟨_,rfl⟩;rw [hA1] at HMA HOK;have HA1:=lH hA1;clear hA1 HM8 HX8 H8 HB8 HH HRA HRL HXX hixI hix0 hixn;rw [HA1.o] at HST
        go_wp2_with fail
        go_roundw
        case rel=>exact ⟨k+1,hs1,A1,hlt,val_int HNX.o,HMA.o,HOK.o.mono (by omega),HST.o.symm⟩
        case measure=>exact HNM.o
       | some j=>
        have hi:=(plc_lt hpu).1;have hj:=(plc_lt hpv).1;have hij:=plc_ne hpu hpv huv;rw [HFL.o] at hi hj;have HSA:Hid (admStep (freeL x) A q u v=addAt (addAt (addAt (addAt A i i q) j j q) i j (-q)) j i (-q)):=lH (by unfold admStep;rw [if_neg huv,hpu,hpv]);rw [HSA.o] at HST;rw [show optI (some i)=(i:Int) from rfl,show optI (some j)=(j:Int) from rfl];have hiI:(i:Int)<(n6:Int):=by omega
        have hi0:=lZ i
        have hjI:(j:Int)<(n6:Int):=by omega
        have hj0:=lZ j
        clear hpu hpv HSA
        go_upto_region 13 with fail
        obtain ⟨ra,hra⟩:∃ ra,A[i]?=some ra:=zX_ (by have:=HOK.o.len;omega);have hral:ra.length=n6:=HOK.o.wid ra (zC_ hra);obtain ⟨gg,cc,vs,xe,hh,c,hx,c0,c1,c2',c3',hv,l1,f1,hne⟩:=HMA.o.elem (i:=i) (j:=i) hra (by omega);rw [hral] at c;have HH:=lH hh;have HXX:=lH hx;have HVV:=lH hv;have HRA:=lH hra;have HRL:=lH hral;have HQS:Hid (qsz (vf ra i)+qsz q+1≤35184372088832):=lH (by have:=HOK.o.bd.vf hra (j:=i) (by omega);have:=HQZ.o;omega);have gl:=HMA.o.own.top.lt;have z0:=HBX.o.blk.cell 0;have z1:=HBX.o.blk.cell 1;have z2:=HBX.o.blk.cell 2;have z3:=HBX.o.blk.cell 3;have zl:=HBX.o.blk.lt;have HB4:=lH (below_drew (Below.refl we.heap.size we));have hixI:(i:Int)<(n6:Int):=by omega
        have hix0:=lZ i
        have hixn:=zL_ i;clear hh hx hv hra hral;refine wp_region_last (S:=fun w'=>Below we.heap.size we w') 15 _ (by kernel_rfl) (by kernel_rfl) rfl (below_drew bR) (fun hHeld=>?_);simp only [zK_,List.take_zero];refine tkH 0 rfl ?_;refine tkH 1 rfl ?_;refine tkH 2 rfl ?_;refine tkH 3 rfl ?_;refine tkH 4 rfl ?_;refine tkH 5 rfl ?_;refine tkH 6 rfl ?_;refine tkH 7 rfl ?_;refine tkH 8 rfl ?_;refine tkH 9 rfl ?_;refine tkH 10 rfl ?_;refine tkH 11 rfl ?_;refine tkH 12 rfl ?_;refine stepH 13 (by kernel_rfl) rfl (fun K hK=>?_);go_simp;refine (addV (HVV.o.up HB4.o) (HBX.o.val.up HB4.o) HQS.o).mono ?_;rintro e w8 ⟨hb8,v8,rfl,h8⟩;have HB8:Hid (Below we.heap.size we w8):=lH (HB4.o.tm hb8);have H8:=lH h8;clear hb8 h8;go_simp;refine hK.out _ _ ?_ (fun hHeld=>?_)
        ·exact HB8.o
        clear hK K
        try simp only [Act.put,sA_,sB_,sC_]
        refine tkH 14 rfl ?_;refine wpAnyH_done (by kernel_rfl) ?_ _;refine lastQ_go (by rfl) ?_;clear hHeld;have HM8:=lH (HMA.o.up HB8.o);have HX8:=lH (HBX.o.up HB8.o);clear c c0 c1 c2' c3' l1 f1 hne gl z0 z1 z2 z3 zl HMA HBX HVV HQS HB4;obtain ⟨c0,c1,c2',c3',l1,f1⟩:=HM8.o.elem2 HH.o HRA.o HXX.o
        go_upto_region 15 with fail
        clear c0 c1 c2' c3' l1 f1;have HMA:=HM8.o.put HH.o HRA.o (j:=i) (x:=v8) (by rw [HRL.o];omega) H8.o;have HBX:=HX8.o.put HM8.o HH.o HRA.o (j:=i) (x:=v8) (by rw [HRL.o];omega);rw [←addAt_row HRA.o] at HMA;replace HOK:Hid (AdmOk n6 (3+8*k+2) (addAt A i i q)):=lH (HOK.o.add (by omega) (by omega) HQZ.o);simp only [putV] at HMA HBX;generalize (((w8.setCell ⟨gg,i*4,none⟩ _).setCell ⟨gg,i*4+1,none⟩ _).setCell ⟨gg,i*4+2,none⟩ _).setCell ⟨gg,i*4+3,none⟩ _=wf at *;replace HMA:=lH HMA;replace HBX:=lH HBX;generalize hs.set i _=hs1 at *;obtain ⟨A1,hA1⟩:∃ A1,addAt A i i q=A1:=⟨_,rfl⟩;rw [hA1] at HMA HOK;have HA1:=lH hA1;clear hA1 HM8 HX8 H8 HB8 HH HRA HRL HXX hixI hix0 hixn;rw [HA1.o] at HST;obtain ⟨ra,hra⟩:∃ ra,A1[j]?=some ra:=zX_ (by have:=HOK.o.len;omega);have hral:ra.length=n6:=HOK.o.wid ra (zC_ hra)
        obtain ⟨gg,cc,vs,xe,hh,c,hx,c0,c1,c2',c3',hv,l1,f1,hne⟩:=HMA.o.elem (i:=j) (j:=j) hra (by omega);rw [hral] at c;have HH:=lH hh;have HXX:=lH hx;have HVV:=lH hv;have HRA:=lH hra;have HRL:=lH hral;have HQS:Hid (qsz (vf ra j)+qsz q+1≤35184372088832):=lH (by have:=HOK.o.bd.vf hra (j:=j) (by omega);have:=HQZ.o;omega);have gl:=HMA.o.own.top.lt;have z0:=HBX.o.blk.cell 0;have z1:=HBX.o.blk.cell 1;have z2:=HBX.o.blk.cell 2;have z3:=HBX.o.blk.cell 3;have zl:=HBX.o.blk.lt;have HB4:=lH (below_drew (Below.refl wf.heap.size wf));have hixI:(j:Int)<(n6:Int):=by omega
        have hix0:=lZ j
        have hixn:=zL_ j;clear hh hx hv hra hral;refine wp_region_last (S:=fun w'=>Below wf.heap.size wf w') 15 _ (by kernel_rfl) (by kernel_rfl) rfl (below_drew bR) (fun hHeld=>?_);simp only [zK_,List.take_zero];refine tkH 0 rfl ?_;refine tkH 1 rfl ?_;refine tkH 2 rfl ?_;refine tkH 3 rfl ?_;refine tkH 4 rfl ?_;refine tkH 5 rfl ?_;refine tkH 6 rfl ?_;refine tkH 7 rfl ?_;refine tkH 8 rfl ?_;refine tkH 9 rfl ?_;refine tkH 10 rfl ?_;refine tkH 11 rfl ?_;refine tkH 12 rfl ?_;refine stepH 13 (by kernel_rfl) rfl (fun K hK=>?_);go_simp;refine (addV (HVV.o.up HB4.o) (HBX.o.val.up HB4.o) HQS.o).mono ?_;rintro e w8 ⟨hb8,v8,rfl,h8⟩;have HB8:Hid (Below wf.heap.size wf w8):=lH (HB4.o.tm hb8);have H8:=lH h8;clear hb8 h8;go_simp;refine hK.out _ _ ?_ (fun hHeld=>?_)
        ·exact HB8.o
        clear hK K
        try simp only [Act.put,sA_,sB_,sC_]
        refine tkH 14 rfl ?_;refine wpAnyH_done (by kernel_rfl) ?_ _;refine lastQ_go (by rfl) ?_;clear hHeld;have HM8:=lH (HMA.o.up HB8.o);have HX8:=lH (HBX.o.up HB8.o);clear c c0 c1 c2' c3' l1 f1 hne gl z0 z1 z2 z3 zl HMA HBX HVV HQS HB4;obtain ⟨c0,c1,c2',c3',l1,f1⟩:=HM8.o.elem2 HH.o HRA.o HXX.o
        go_upto_region 17 with fail
        clear c0 c1 c2' c3' l1 f1;have HMA:=HM8.o.put HH.o HRA.o (j:=j) (x:=v8) (by rw [HRL.o];omega) H8.o;have HBX:=HX8.o.put HM8.o HH.o HRA.o (j:=j) (x:=v8) (by rw [HRL.o];omega);rw [←addAt_row HRA.o] at HMA;replace HOK:Hid (AdmOk n6 (3+8*k+2+2) (addAt A1 j j q)):=lH (HOK.o.add (by omega) (by omega) HQZ.o);simp only [putV] at HMA HBX;generalize (((w8.setCell ⟨gg,j*4,none⟩ _).setCell ⟨gg,j*4+1,none⟩ _).setCell ⟨gg,j*4+2,none⟩ _).setCell ⟨gg,j*4+3,none⟩ _=wg at *;replace HMA:=lH HMA;replace HBX:=lH HBX;generalize hs1.set j _=hs2 at *;obtain ⟨A2,hA2⟩:∃ A2,addAt A1 j j q=A2:=⟨_,rfl⟩;rw [hA2] at HMA HOK;have HA2:=lH hA2;clear hA2 HM8 HX8 H8 HB8 HH HRA HRL HXX hixI hix0 hixn;rw [HA2.o] at HST;obtain ⟨ra,hra⟩:∃ ra,A2[i]?=some ra:=zX_ (by have:=HOK.o.len;omega);obtain ⟨rb,hrb⟩:∃ rb,A2[j]?=some rb:=zX_ (by have:=HOK.o.len;omega);have hral:ra.length=n6:=HOK.o.wid ra (zC_ hra)
        have hrbl:rb.length=n6:=HOK.o.wid rb (zC_ hrb);obtain ⟨g1,k1,vs1,x1,hh1,p,p0,p1,p2,p3,p4,hv1,l1,f1,hne1⟩:=HMA.o.elem (i:=i) (j:=j) hra (by omega);obtain ⟨g2,k2,vs2,x2,hh2,e,e0,e1,e2,e3,e4,hv2,l2,f2,hne2⟩:=HMA.o.elem (i:=j) (j:=i) hrb (by omega);rw [hral] at p;rw [hrbl] at e;have HH1:=lH hh1;have HH2:=lH hh2;have HX1:=lH p0;have HX2:=lH e0;have HV1:=lH hv1;have HV2:=lH hv2;have HRA:=lH hra;have HRB:=lH hrb;have HRAL:=lH hral;have HRBL:=lH hrbl;have HQS1:Hid (qsz (vf ra j)+qsz q+1≤35184372088832):=lH (by have:=HOK.o.bd.vf hra (j:=j) (by omega);have:=HQZ.o;omega);have HQS2:Hid (qsz (vf rb i)+qsz q+1≤35184372088832):=lH (by have:=HOK.o.bd.vf hrb (j:=i) (by omega);have:=HQZ.o;omega);have HIJ:=lH hij;have gl:=HMA.o.own.top.lt;have z0:=HBX.o.blk.cell 0;have z1:=HBX.o.blk.cell 1;have z2:=HBX.o.blk.cell 2;have z3:=HBX.o.blk.cell 3;have zl:=HBX.o.blk.lt
        have HB4:=lH (below_drew (Below.refl wg.heap.size wg));have hin:=zL_ i;have hjn:=zL_ j;clear hh1 hh2 p0 e0 hv1 hv2 hra hrb hral hrbl hij;refine wp_region_last3X (S:=fun w'=>Below wg.heap.size wg w') 28 9 _ _ _ _ (.int .i64 (i:Int)) (by kernel_rfl) (by kernel_rfl) (by kernel_rfl) (by kernel_rfl) rfl (by decide) (by kernel_rfl) rfl rfl rfl (by kernel_rfl) (fun _ _ _ h=>h) (by rfl) (fun w'=>by go_simp<;>with_reducible rfl) (below_drew bR) (fun hHeld=>?_);simp only [zK_,List.take_zero]
        try simp only [Act.put,sA_,sB_,sC_]
        refine tkH 0 rfl ?_;refine tkH 1 rfl ?_;refine tkH 2 rfl ?_;refine tkH 3 rfl ?_;refine tkH 4 rfl ?_;refine tkH 5 rfl ?_;refine tkH 6 rfl ?_;refine tkH 7 rfl ?_;refine tkH 8 rfl ?_;refine tkH 10 rfl ?_;refine tkH 11 rfl ?_;refine tkH 12 rfl ?_;refine tkH 13 rfl ?_;refine tkH 14 rfl ?_;refine tkH 15 rfl ?_;refine tkH 16 rfl ?_;refine tkH 17 rfl ?_;refine tkH 19 rfl ?_;refine tkH 20 rfl ?_;refine tkH 21 rfl ?_;refine tkH 22 rfl ?_;refine tkH 23 rfl ?_;refine tkH 24 rfl ?_;refine tkH 25 rfl ?_;refine tkH 26 rfl ?_;refine stepH 18 (by kernel_rfl) rfl (fun K hK=>?_);go_simp;refine (subV (HV1.o.up HB4.o) (HBX.o.val.up HB4.o) HQS1.o).mono ?_;rintro e8 w8 ⟨hb8,v8,rfl,h8⟩;have HB8:Hid (Below wg.heap.size wg w8):=lH (HB4.o.tm hb8);have H8:=lH h8;clear hb8 h8;go_simp;refine hK.out _ _ ?_ (fun hHeld=>?_)
        ·exact HB8.o
        clear hK K
        try simp only [Act.put,sA_,sB_,sC_]
        refine stepH 27 (by kernel_rfl) rfl (fun K hK=>?_);go_simp;refine (subV (HV2.o.up HB8.o) (HBX.o.val.up HB8.o) HQS2.o).mono ?_;rintro e9 w9 ⟨hb9,v9,rfl,h9⟩;have HB9:Hid (Below wg.heap.size wg w9):=lH (HB8.o.tm hb9);have H9:=lH h9;replace H8:=lH (H8.o.up hb9);clear hb9 h9;go_simp;refine hK.out _ _ ?_ (fun hHeld=>?_)
        ·exact HB9.o
        clear hK K
        try simp only [Act.put,sA_,sB_,sC_]
        refine tkH 28 rfl ?_;refine wpAnyH_done (by kernel_rfl) ?_ _;refine lastQ_go (by rfl) ?_;clear hHeld;have HM9:=lH (HMA.o.up HB9.o);clear p p1 p2 p3 p4 l1 f1 hne1 e e1 e2 e3 e4 l2 f2 hne2 gl z0 z1 z2 z3 zl HMA HBX HV1 HV2 HQS1 HQS2 HB4 HB8;obtain ⟨p1,p2,p3,p4,l1,f1⟩:=HM9.o.elem2 HH1.o HRA.o HX1.o;go_simp;have HM10:=HM9.o.put HH1.o HRA.o (j:=j) (x:=v8) (by rw [HRAL.o];omega) H8.o;have H10:=MatS.keepv (x:=v8) HM9.o HH1.o HRA.o (j:=j) (by rw [HRAL.o];omega) H9.o;rw [Rat.sub_eq_add_neg,←addAt_row HRA.o] at HM10;have HR10:Hid ((addAt A2 i j (-q))[j]?=some rb):=lH (by rw [addAt_row HRA.o,List.getElem?_set_ne HIJ.o];exact HRB.o);have HH10:=lH ((List.getElem?_set_ne (l:=hs2) (a:=(⟨some ⟨g1,0,none⟩,g1,k1,vs1.set j v8⟩:Mh)) HIJ.o).trans HH2.o)
        replace HOK:Hid (AdmOk n6 (3+8*k+2+2+2+2) (addAt (addAt A2 i j (-q)) j i (-q))):=lH ((HOK.o.add (i:=i) (j:=j) (q:=-q) (by omega) (by omega) (by rw [neg_qsz];exact HQZ.o)).add (by omega) (by omega) (by rw [neg_qsz];exact HQZ.o));simp only [putV] at HM10 H10;generalize (((w9.setCell ⟨g1,j*4,none⟩ _).setCell ⟨g1,j*4+1,none⟩ _).setCell ⟨g1,j*4+2,none⟩ _).setCell ⟨g1,j*4+3,none⟩ _=wh at *;replace HM10:=lH HM10;replace H10:=lH H10;generalize addAt A2 i j (-q)=A3 at *;generalize hs2.set i _=hs3 at *;clear p1 p2 p3 p4 l1 f1 HM9 H8 H9 HB9;obtain ⟨e1,e2,e3,e4,l2,f2⟩:=HM10.o.elem2 HH10.o HR10.o HX2.o;refine lastQ_go (by rfl) ?_;go_simp;refine lastQ_go (by rfl) ?_
        go_wp2_with fail
        go_roundw
        case rel=>
         have HM11:=HM10.o.put HH10.o HR10.o (j:=i) (x:=v9) (by rw [HRBL.o];omega) H10.o;rw [Rat.sub_eq_add_neg,←addAt_row HR10.o] at HM11;exact ⟨k+1,_,_,hlt,val_int HNX.o,HM11,HOK.o.mono (by omega),HST.o.symm⟩
        case measure=>exact HNM.o
    ·have hke:k=n4:=by omega
     have HA:Hid (A=admR x):=lH (by
      have h:=HGO.o;rw [List.drop_eq_nil_of_le (by rw [mB_len];have:=HN4.o;omega)] at h;exact h)
     rw [HA.o] at HMA HOK;have hkI:¬(k:Int)<(n4:Int):=by omega
     have hmr:(admR x).length=n6:=HOK.o.len;have HRM:Hid (RdM wr wr.heap.size (some ⟨ga,0,none⟩) n6 (admR x)):=lH (by have h:=HMA.o.own.rd;rwa [hmr] at h);have hpw:4^n6≤4^8:=Nat.pow_le_pow_right (by decide) h6;have HIN:=lH (inverse_m (some ⟨ga,0,none⟩) n6 n6 (3+8*k) (admR x) wr HRM.o (by omega) HOK.o.wid HOK.o.bd (by omega) (zI_ (Nat.mul_le_mul hpw lR) (by omega)));have HML:=lH hmr;clear HGO HA hke hpw hmr HRM HOK hlt hk
     go_wp2_with fail
     refine HIN.o.mono ?_;rintro e w1 ⟨hb1,halt⟩;have HB1:Hid (Below ga w w1):=lH (HMA.o.low.trans (hb1.mono (zQ_ HMA.o.own.top.lt)));have HWL:Hid (ga≤wr.heap.size):=lH (zQ_ HMA.o.own.top.lt);have HWS:Hid (ga≤w1.heap.size):=lH (by have:=HB1.o.size;have:=HGA.o;omega);have HR1:=lH ((HR.o.below HB1.o lR).more HWS.o);have HG2:=lH (HG.o.below HB1.o (by have:=HG.o.lt;have:=HGA.o;omega));have HGR:Hid (∀ u,w.grownBy (w1.setCell ⟨g,7,none⟩ u) (some g)):=lH fun u=>only_setCell (only_of_below (by rw [HGA.o];exact HB1.o) _) (.inl rfl) u;have HMB:Hid (∀ u,Blk (w1.setCell ⟨g,7,none⟩ u) g 122 #[.slice A0 n0 c0,.slice A1 n1 c1,.slice A2 n2 c2,.slice A3 n3 c3,.slice A4 n4 c4,.slice A5 n5 c5,.slice A6 n6 c6,u]):=lH fun u=>HG2.o.set_at (i:=7) u (by simp)
     have HKM:Hid (∀ u,RdMod (w1.setCell ⟨g,7,none⟩ u) (w1.setCell ⟨g,7,none⟩ u).heap.size ⟨A0,n0,c0,A1,n1,c1,A2,n2,c2,A3,n3,c3,A4,n4,c4,A5,n5,c5,A6,n6,c6⟩ x):=lH fun u=>HR1.o.keepm (m:=⟨A0,n0,c0,A1,n1,c1,A2,n2,c2,A3,n3,c3,A4,n4,c4,A5,n5,c5,A6,n6,c6⟩) HG2.o (by decide) u;rw [HML.o] at halt;have HREG:Hid (mReg x↔¬(redR (extR (admR x)) n6).2.length<n6):=lH (by unfold mReg;rw [HN6.o]);have HINV:Hid (mInv x=(redR (extR (admR x)) n6).1.map (List.drop n6)):=lH (by unfold mInv;rw [HN6.o]);have y7:=HG2.o.cell 7;have yl:=HG2.o.lt;have yf:=HG2.o.frozen;clear hb1 HIN HMA;rcases halt with ⟨hh,rfl⟩ | ⟨hh,g2,rfl,hg2,hrm⟩
     ·have HNR:Hid (¬mReg x):=lH fun h=>HREG.o.1 h hh
      clear hh HREG HINV
      go_wp2_with fail
      go_end0
      exact ⟨rfl,HGR.o _,HKM.o _,none,0,0,HMB.o _,fun h=>absurd h HNR.o⟩
     ·have HRM2:Hid (∀ u,RdM (w1.setCell ⟨g,7,none⟩ u) (w1.setCell ⟨g,7,none⟩ u).heap.size (some ⟨g2,0,none⟩) n6 (mInv x)):=lH fun u=>by
       rw [HINV.o];refine RdM.keepm (m:=⟨A0,n0,c0,A1,n1,c1,A2,n2,c2,A3,n3,c3,A4,n4,c4,A5,n5,c5,A6,n6,c6⟩) hrm HG2.o (fun b off e=>?_) (by decide) u;injection e with e;injection e with e1 e2;have:=HG.o.lt;have:=HGA.o;have:=HWL.o;omega
      clear hh hrm HREG HINV
      go_wp2_with fail
      go_end0
      exact ⟨rfl,HGR.o _,HKM.o _,some ⟨g2,0,none⟩,n6,n6,HMB.o _,fun h=>⟨HN6.o.symm,HRM2.o _⟩⟩
end
section
open Go.ChangeShapes Go.WideShapes Go.ChangeAt Go.RowKit
def NotInt (y:Value):Prop:=∀ k x,y≠.int k x
theorem slice_ni {A:Option Addr} {n c:Nat}:NotInt (.slice A n c):=fun k x h=>by cases h
theorem RtV.keep1 {w:World} {g T i:Nat} {cs:Array Value} {q:Rat} {x:Rv} {y:Value} (h:RtV w w.heap.size q x) (hb:Blk w g T cs) (hy:cs[i]?=some y) (hn:NotInt y) (u:Value):RtV (w.setCell ⟨g,i,none⟩ u) (w.setCell ⟨g,i,none⟩ u).heap.size q x:=by
 have h0:RtIs w w.heap.size q x.b1 x.A x.n x.c x.b2 x.A2 x.m x.d:=h;exact RtIs.keep h0 (v:=y) (by rw [hb.cell];exact hy) hn u
section
variable {S:Value→Prop} {w w':World} {base e size n:Nat} {v:Value} {xs:List Value}
theorem OwnS.blk (h:OwnS S w base e size v n xs) {S':Value→Prop} {e':TypeId} {b':Nat} (k:Keeps S' b' e' w w') (hne:e≠e'):OwnS S w' base e size v n xs:=by
 refine ⟨h.1,?_⟩;rcases h.2 with h1 | ⟨g,cap,cur,h1,h2,h3,h4⟩
 ·exact .inl h1
 ·exact .inr ⟨g,cap,cur,h1,h2,k.blk _ _ _ h3 hne,h4⟩
theorem OwnS.ni (h:OwnS S w base e size v n xs):NotInt v:=by
 obtain ⟨A,c,rfl,_⟩:=h.shape;exact slice_ni
end
structure MdS (g:Nat) (w0 wr:World) (b0 b1 vF vT vB vC:Value) (F T:List Nat) (uB uC:List Rv) (B C:List Rat):Prop where
 blk:Blk wr g 122 #[b0,b1,vF,vT,vB,vC,.slice none 0 0,.slice none 0 0]
 oF:OwnS IsI wr (g+1) 3 1 vF F.length (natI F)
 oT:OwnS IsI wr (g+1) 3 1 vT T.length (natI T)
 oB:OwnQ wr (g+1) vB uB B
 oC:OwnQ wr (g+1) vC uC C
 ap:∀ k,vF.ownBlock=some k→vT.ownBlock≠some k
 aq:∀ k,vB.ownBlock=some k→vC.ownBlock≠some k
 low:Below g w0 wr
section
variable {g:Nat} {w0 wr w':World} {b0 b1 vF vT vB vC v':Value} {F T:List Nat} {uB uC:List Rv} {B C:List Rat}
theorem MdS.up (m:MdS g w0 wr b0 b1 vF vT vB vC F T uB uC B C) (hb:Below wr.heap.size wr w'):MdS g w0 w' b0 b1 vF vT vB vC F T uB uC B C:=
 ⟨m.blk.bl hb,m.oF.keep hb,m.oT.keep hb,m.oB.keep hb,m.oC.keep hb,m.ap,m.aq,m.low.trans (hb.mono (zQ_ m.blk.lt))⟩
theorem OwnQ.keepsI {vs:List Rv} {qs:List Rat} {v:Value} {base b':Nat} (h:OwnQ wr base v vs qs) (k:Keeps IsI b' 3 wr w'):OwnQ w' base v vs qs:=
 ⟨h.own.blk k (by decide),h.len,fun i q x hq hx=>(h.ok i q x hq hx).keepsI k⟩
theorem OwnQ.far {vs:List Rv} {qs:List Rat} {v y u:Value} {base g T i:Nat} {cs:Array Value} (h:OwnQ wr base v vs qs) (hb:Blk wr g T cs) (ht:115≠T) (hy:cs[i]?=some y) (hn:NotInt y):OwnQ (wr.setCell ⟨g,i,none⟩ u) base v vs qs:=
 ⟨h.own.far hb ht,h.len,fun i q x hq hx=>(h.ok i q x hq hx).keep1 hb hy hn u⟩
theorem OwnQ.apart {vs:List Rv} {qs:List Rat} {v u:Value} {base b':Nat} (h:OwnQ wr base u vs qs) (k:Keeps NoI b' 115 wr w') (ho:∀ k,k<wr.heap.size→v.ownBlock≠some k→w'.heap[k]?=wr.heap[k]?) (hne:∀ k,u.ownBlock=some k→v.ownBlock≠some k):OwnQ w' base u vs qs:=
 ⟨h.own.apart ho hne,h.len,fun i q x hq hx=>(h.ok i q x hq hx).keeps k⟩
theorem ap_new {S:Value→Prop} {v v' u:Value} {base e size n:Nat} {xs:List Value} (h:∀ k,v.ownBlock=some k→u.ownBlock≠some k) (hu:OwnS S wr base e size u n xs) (hv:v'.ownBlock=v.ownBlock∨v'.ownBlock=some wr.heap.size):∀ k,v'.ownBlock=some k→u.ownBlock≠some k:=fun k hk hc=>by
 rcases hv with hv | hv
 ·rw [hv] at hk;exact h k hk hc
 ·rw [hv] at hk
  injection hk with hk;subst hk;exact absurd (hu.lt hc).2 (Nat.lt_irrefl _)
theorem MdS.appF (m:MdS g w0 wr b0 b1 vF vT vB vC F T uB uC B C) {u:Nat} (h1:OwnS IsI w' (g+1) 3 1 v' (F.length+1) (natI F++[.int .i64 (u:Int)])) (h2:Keeps IsI (g+1) 3 wr w') (h3:v'.ownBlock=vF.ownBlock∨v'.ownBlock=some wr.heap.size) (h4:∀ k,k<wr.heap.size→vF.ownBlock≠some k→w'.heap[k]?=wr.heap[k]?) :
    MdS g w0 (w'.setCell ⟨g,2,none⟩ v') b0 b1 v' vT vB vC (F++[u]) T uB uC B C:=by
 have hb:=h2.blk _ _ _ m.blk (by decide);have hT:=m.oT.apart h4 fun k hk hc=>m.ap k hc hk;have hB:=m.oB.keepsI h2;have hC:=m.oC.keepsI h2;have hlen:F.length+1=(F++[u]).length:=by simp
 have hnat:natI F++[.int .i64 (u:Int)]=natI (F++[u]):=by unfold natI;rw [List.map_append];rfl
 rw [hlen,hnat] at h1;exact ⟨by have:=hb.set_ 2 v';simpa using this,h1.far hb (by decide),hT.far hb (by decide),hB.far hb (by decide) (y:=vF) rfl m.oF.ni,hC.far hb (by decide) (y:=vF) rfl m.oF.ni,ap_new m.ap m.oT h3,m.aq,(m.low.trans (h2.low.mono (Nat.le_succ g))).setCell lR _⟩
theorem MdS.appT (m:MdS g w0 wr b0 b1 vF vT vB vC F T uB uC B C) {u:Nat} (h1:OwnS IsI w' (g+1) 3 1 v' (T.length+1) (natI T++[.int .i64 (u:Int)])) (h2:Keeps IsI (g+1) 3 wr w') (h3:v'.ownBlock=vT.ownBlock∨v'.ownBlock=some wr.heap.size) (h4:∀ k,k<wr.heap.size→vT.ownBlock≠some k→w'.heap[k]?=wr.heap[k]?) :
    MdS g w0 (w'.setCell ⟨g,3,none⟩ v') b0 b1 vF v' vB vC F (T++[u]) uB uC B C:=by
 have hb:=h2.blk _ _ _ m.blk (by decide);have hF:=m.oF.apart h4 fun k hk hc=>m.ap k hk hc;have hB:=m.oB.keepsI h2;have hC:=m.oC.keepsI h2;have hlen:T.length+1=(T++[u]).length:=by simp
 have hnat:natI T++[.int .i64 (u:Int)]=natI (T++[u]):=by unfold natI;rw [List.map_append];rfl
 rw [hlen,hnat] at h1;have hap:∀ k,vF.ownBlock=some k→v'.ownBlock≠some k:=fun k hk hc=>ap_new (v:=vT) (fun k h1 h2=>m.ap k h2 h1) m.oF h3 k hc hk;exact ⟨by have:=hb.set_ 3 v';simpa using this,hF.far hb (by decide),h1.far hb (by decide),hB.far hb (by decide) (y:=vT) rfl m.oT.ni,hC.far hb (by decide) (y:=vT) rfl m.oT.ni,hap,m.aq,(m.low.trans (h2.low.mono (Nat.le_succ g))).setCell lR _⟩
theorem MdS.appB (m:MdS g w0 wr b0 b1 vF vT vB vC F T uB uC B C) {u:Rv} {q:Rat} (hq:RtV wr wr.heap.size q u) (h1:OwnS NoI w' (g+1) 115 4 v' (uB.length+1) (rvs uB++u.cells)) (h2:Keeps NoI (g+1) 115 wr w') (h3:v'.ownBlock=vB.ownBlock∨v'.ownBlock=some wr.heap.size) (h4:∀ k,k<wr.heap.size→vB.ownBlock≠some k→w'.heap[k]?=wr.heap[k]?) :
    MdS g w0 (w'.setCell ⟨g,4,none⟩ v') b0 b1 vF vT v' vC F T (uB++[u]) uC (B++[q]) C:=by
 have hb:=h2.blk _ _ _ m.blk (by decide);have hB:=m.oB.app hq h1 h2;have hC:=m.oC.apart h2 h4 fun k hk hc=>m.aq k hc hk;exact ⟨by have:=hb.set_ 4 v';simpa using this,(m.oF.blk h2 (by decide)).far hb (by decide),(m.oT.blk h2 (by decide)).far hb (by decide),hB.far hb (by decide) (y:=vB) rfl m.oB.own.ni,hC.far hb (by decide) (y:=vB) rfl m.oB.own.ni,m.ap,ap_new m.aq m.oC.own h3,(m.low.trans (h2.low.mono (Nat.le_succ g))).setCell lR _⟩
theorem MdS.appC (m:MdS g w0 wr b0 b1 vF vT vB vC F T uB uC B C) {u:Rv} {q:Rat} (hq:RtV wr wr.heap.size q u) (h1:OwnS NoI w' (g+1) 115 4 v' (uC.length+1) (rvs uC++u.cells)) (h2:Keeps NoI (g+1) 115 wr w') (h3:v'.ownBlock=vC.ownBlock∨v'.ownBlock=some wr.heap.size) (h4:∀ k,k<wr.heap.size→vC.ownBlock≠some k→w'.heap[k]?=wr.heap[k]?) :
    MdS g w0 (w'.setCell ⟨g,5,none⟩ v') b0 b1 vF vT vB v' F T uB (uC++[u]) B (C++[q]):=by
 have hb:=h2.blk _ _ _ m.blk (by decide);have hC:=m.oC.app hq h1 h2;have hB:=m.oB.apart h2 h4 fun k hk hc=>m.aq k hk hc;have haq:∀ k,vB.ownBlock=some k→v'.ownBlock≠some k:=fun k hk hc=>ap_new (v:=vC) (fun k h1 h2=>m.aq k h2 h1) m.oB.own h3 k hc hk;exact ⟨by have:=hb.set_ 5 v';simpa using this,(m.oF.blk h2 (by decide)).far hb (by decide),(m.oT.blk h2 (by decide)).far hb (by decide),hB.far hb (by decide) (y:=vC) rfl m.oC.own.ni,hC.far hb (by decide) (y:=vC) rfl m.oC.own.ni,m.ap,haq,(m.low.trans (h2.low.mono (Nat.le_succ g))).setCell lR _⟩
theorem mdS_start {w:World} (b0 b1:Value):MdS w.heap.size w (w.alloc (.cells #[b0,b1,.slice none 0 0,.slice none 0 0,.slice none 0 0,.slice none 0 0,.slice none 0 0,.slice none 0 0] 122)) b0 b1 (.slice none 0 0) (.slice none 0 0) (.slice none 0 0) (.slice none 0 0) [] [] [] [] [] []:=
 ⟨Blk.new _ _ _,ownS_none _ _ _ _ _,ownS_none _ _ _ _ _,ownQ_none _ _,ownQ_none _ _,fun k h=>(by cases h),fun k h=>(by cases h),bA⟩
end
end
end Go.Proofs.YthgdchffeigkbaaGreatDoor
