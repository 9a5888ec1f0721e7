import Derived.Test.YthgdchffeigkbaaGreatDoorV01
import Derived.Test.YthgdchffeigkbaaGreatDoorV02
import Derived.Test.YthgdchffeigkbaaGreatDoorV03
import Derived.Lib.AppendStr
import Derived.Lib.ItoaMem
import Derived.Lib.AppendIntMem
import Derived.Lib.SmallJoins
import Derived.Lib.ParseIntB
import Derived.Deep.AppendSrc
import Derived.Deep.Upon
import Derived.Deep.DeepAppendWide
set_option linter.unusedVariables false
set_option linter.unusedSimpArgs false
namespace Go.Proofs.YthgdchffeigkbaaGreatDoor
set_option maxHeartbeats 6400000
set_option maxRecDepth 100000
variable {B N base c e i j k n p r s size u : Nat} {L : List Oper} {R a b row : List Rat} {d f x : Rat} {ex piv ps : List Nat} {l : List UInt8} {m : Int} {v : Value} {w w' : World} {xs : List Value}
section
open Go.ChangeShapes Go.WideShapes Go.ChangeAt Go.RowKit
attribute [local go_sem ↓] aE
attribute [local go_sem] aJ aI aM
theorem RT:(Tryz.prog.info? 233).map (·.size)=some 2:=by kernel_rfl
theorem aFh:liesAt Tryz.prog Tryz.prog.depth 233 (2 / Tryz.prog.cellsOf 233) 0 233 1=true:=by kernel_rfl
theorem aB_:(Tryz.prog.info? 5).map (fun i=>(i.zero,i.size,i.bytes))=some (some (.int .u8 0),1,1):=by kernel_rfl
theorem aCG(b:Nat)(w:Wo)(h0:w.cell? ⟨b,0,none⟩=some (.pointer (some ⟨b,0,none⟩))):Calls Tryz.prog 172 #[.pointer (some ⟨b,0,none⟩)] w fun e w'=>e=.returned (.tuple #[])/\w'=w:=by
 obtain⟨j,hj,_⟩:=Option.map_eq_some_iff.1 RT;go_enter Tryz.func172,Tryz.ntmps172
 go_wp2
 rw[Lib.run_neq_ptr_same w _ Tryz.underlying230 hj]
 go_wp2
 go_end0
 exact⟨rfl,rfl⟩
theorem X6(b:Nat)(w:Wo)(h0:w.cell? ⟨b,0,none⟩=some (.pointer none))(hsh:w.shape? b=some (233,2))(hfz:w.frozen? ⟨b,0,none⟩=false):Calls Tryz.prog 172 #[.pointer (some ⟨b,0,none⟩)] w fun e w'=>e=.returned (.tuple #[])/\w'=w.setCell ⟨b,0,none⟩ (.pointer (some ⟨b,0,none⟩)):=by
 obtain⟨j,hj,hjs⟩:=Option.map_eq_some_iff.1 RT;go_enter Tryz.func172,Tryz.ntmps172
 go_wp2
 rw[Lib.run_to_unsafe w ⟨b,0,none⟩ Tryz.underlying230 Tryz.underlying271 hj (by rw[hjs];decide) hsh (Nat.zero_lt_succ 1)];simp only[Result.andThen];rw[Oper.upon_value]
 go_wp2
 rw[run_callFunc_extern Tryz.func191 (by kernel_rfl) (by kernel_rfl) (by kernel_rfl) (e:=Extern.AbiNoEscape.same) (by kernel_rfl)];rw[Lib.run_noEscape];simp only[Result.andThen];rw[Oper.upon_value]
 go_wp2
 rw[Lib.run_from_unsafe w ⟨b,0,none⟩ Tryz.underlying271 Tryz.underlying230 hj hsh aFh];simp only[Result.andThen];rw[Oper.upon_value]
 go_wp2
 go_end0
 exact⟨rfl,rfl⟩
theorem aGU(B b:Nat)(bs:List Value)(w:Wo)(h:Lib.IsBuilder 233 5 B b bs w):Calls Tryz.prog 172 #[.pointer (some ⟨b,0,none⟩)] w fun e w'=>e=.returned (.tuple #[])/\(Lib.BuilderAt 233 5 B b (.pointer (some ⟨b,0,none⟩)) bs w'/\Below B w w'):=by
 rcases h with h | h
 ·refine(X6 b w h.cell0 h.shape h.frozen0).mono ?_
  rintro e w' ⟨rfl,rfl⟩;exact⟨rfl,h.used _,(Below.refl B w).setCell (p:=⟨b,0,none⟩) h.1 _⟩
 ·refine(aCG b w h.cell0).mono ?_
  rintro e w' ⟨rfl,rfl⟩;exact⟨rfl,h,Below.refl B _⟩
theorem DP(B b:Nat)(bs:List Value)(s:ByteArray)(w:Wo)(h:Lib.IsBuilder 233 5 B b bs w)(dW:bs.length+s.size<=140737488355328)(hBw:B<=w.heap.size):Calls Tryz.prog 152 #[.pointer (some ⟨b,0,none⟩),.string s] w fun e w'=>(∃v,e=.returned v)/\Lib.BuilderAt 233 5 B b (.pointer (some ⟨b,0,none⟩)) (bs++Lib.strCells s) w'/\Below B w w':=by
 obtain⟨i0,hi,rU,jR,kS⟩:=info_parts aB_;have H:=lH h;clear h;go_enter Tryz.func152,Tryz.ntmps152
 go_wp2_with fail
 refine(aGU B b bs w H.o).mono ?_;rintro e w1 ⟨rfl,h1,bC⟩;obtain⟨hB,v,zW,bB,bX⟩:=h1;have c0:w1.cell? ⟨b,0,none⟩=some (.pointer (some ⟨b,0,none⟩)):=by rw[Lib.cell_of_heap zW];rfl
 have c1:w1.cell? ⟨b,1,none⟩=some v:=by rw[Lib.cell_of_heap zW];rfl
 go_wp2_with (at_builtin;refine Lib.wpList_append_own_string _ rfl _ _ 231 9 rfl B 5 i0 Tryz.underlying231 Tryz.underlying9 hi rU jR kS _ _ _ rfl bB s rfl ?c3 ?c4 ?c5 ?_)
 case c3=>unfold maxLen;omega
 case c4=>omega
 case c5=>have:=bC.size;omega
 intro v' w2 hown' hgrow _;have aU:b<w1.heap.size:=by
  rcases Nat.lt_or_ge b w1.heap.size with h' | h'
  ·exact h'
  ·simp[Array.getElem?_eq_none h'] at zW
 have bH:w2.heap[b]?=some (.cells #[.pointer (some ⟨b,0,none⟩),v] 233 (0,0)):=by
  rw[hgrow.block b aU (fun e=>bX e.symm)];exact zW
 have d0:w2.cell? ⟨b,0,none⟩=some (.pointer (some ⟨b,0,none⟩)):=by rw[Lib.cell_of_heap bH];rfl
 have d1:w2.cell? ⟨b,1,none⟩=some v:=by rw[Lib.cell_of_heap bH];rfl
 have f1:w2.frozen? ⟨b,1,none⟩=false:=Lib.frozen_of_heap bH 1;obtain⟨ao,n',cap,rfl⟩:∃ao n' cap,v'=.slice ao n' cap:=by
  rcases hown'.2 with⟨hv,_⟩ | ⟨g,cap,cur,hv,_⟩
  ·exact⟨_,_,_,hv⟩
  ·exact⟨_,_,_,hv⟩
 go_wp2
 go_ret2;refine⟨⟨_,rfl⟩,?_,?_⟩
 ·exact Lib.BuilderAt.put (T:=233) (e:=5) hB bH (bs':=bs++Lib.strCells s) (by simpa[Lib.strCells_length] using hown') (by decide)
 ·exact(bC.grown hgrow (by have:=bC.size;omega) (fun k hk=>(bB.lt k hk).1)).setCell (p:=⟨b,1,none⟩) hB _
end
section
def pv:List Nat->Nat
 | []=>0
 | x::r=>x+1000000000*pv r
def aHf(ps:List Nat):Prop:=∀x∈ps,x<1000000000
theorem ZW:∀(ps:List Nat)(r:Nat),pv (ps++[r])=pv ps+r*1000000000^ps.length
 | [],r=>by simp[pv]
 | x::t,r=>by
  rw[List.cons_append,pv,ZW t r,pv,GS,Nat.pow_succ];grind
theorem aBM(h:aHf ps)(hr:r<1000000000):aHf (ps++[r]):=fun x hx=>(List.mem_append.1 hx).elim (h x) fun h=>by rw[List.mem_singleton.1 h];exact hr
theorem ZX{x:Nat}(h:ps[k]?=some x):pv (ps.drop k)=x+1000000000*pv (ps.drop (k+1)):=by
 obtain⟨hl,he⟩:=dH.1 h;rw[List.drop_eq_getElem_cons hl,he,pv]
def UB(ps:List Nat):Prop:=∀x,ps.getLast?=some x->0<x
theorem aEB:∀{ps:List Nat},UB ps->ps≠[]->0<pv ps
 | [x],h,_=>by
  have:=h x rfl;simp only[pv];omega
 | x::y::r,h,_=>by
  have:=aEB (ps:=y::r) (fun z hz=>h z (by rw[List.getLast?_cons_cons];exact hz)) (by simp);rw[pv];omega
theorem V0(h:UB ps)(hk:k<ps.length):0<pv (ps.drop k):=by
 refine aEB (fun x hx=>h x ?_) (fun e=>by have:=congrArg List.length e;rw[LC] at this;simp at this;omega);rw[List.getLast?_drop,if_neg (by omega)] at hx;exact hx
def Dg(ps:List Nat)(k:Nat):List UInt8:=if k<ps.length then Lib.decDigits (pv (ps.drop k)) else[]
theorem aGM(ps:List Nat):Dg ps ps.length=[]:=by unfold Dg;rw[if_neg (Nat.lt_irrefl _)]
theorem aOL{x:Nat}(h:ps[k]?=some x)(hk:k+1=ps.length):Dg ps k=Lib.decDigits x:=by
 unfold Dg;rw[if_pos (by omega),ZX h,List.drop_eq_nil_of_le (by omega),pv,Nat.mul_zero,Nat.add_zero]
theorem aOM{x:Nat}(h:ps[k]?=some x)(hk:k+1<ps.length)(pY:aHf ps)(ht:UB ps):Dg ps k=Dg ps (k+1)++List.replicate (9-(Lib.decDigits x).length) 48++Lib.decDigits x:=by
 unfold Dg;have hx:=pY x (bV h);have hp:=V0 ht hk;rw[if_pos (by omega),if_pos hk,ZX h,Nat.add_comm x,Nat.mul_comm,show 1000000000=10^9 from rfl,NL 9 _ x hp hx,JZ 9 x (by decide) hx,List.append_assoc]
theorem aOO(h:ps≠[]):Dg ps 0=Lib.decDigits (pv ps):=by
 unfold Dg;rw[if_pos (List.length_pos_iff.2 h),List.drop_zero]
theorem aON{x:Nat}(h:ps[k]?=some x)(pY:aHf ps):1<=(Lib.decDigits x).length/\(Lib.decDigits x).length<=9:=
 ⟨o3 x,TS (by decide) (pY x (bV h))⟩
theorem AB{a b:Nat}(h:a<=b):10^a<=10^b:=Nat.pow_le_pow_right (by decide) h
theorem aTr:10^2000<=BB 210:=by unfold BB;decide+kernel
theorem aTs:BB 210<=1000000000^225:=by unfold BB;decide+kernel
theorem WY(h:210<dL n):2000<zQ n:=by
 have h0:n≠0:=fun e=>by rw[e,iR] at h;omega
 have h1:=aJq h0;have h2:BB 210<=n:=cO (UU (by omega)) h1;refine Nat.lt_of_not_le fun FQ=>?_;have h3:=aFg n;have h4:=AB FQ;have h5:=aTr;omega
theorem aCw{v g L:Nat}(hv:dL v<=210)(hg:0<g)(h:g*1000000000^L<=v):L<225:=by
 have h1:=oL v;have h2:v<1000000000^225:=jE h1 (cO (UU hv) aTs);have h3:1*1000000000^L<=g*1000000000^L:=Nat.mul_le_mul_right _ hg;exact(Nat.pow_lt_pow_iff_right (a:=1000000000) (by decide)).1 (by omega)
def kE(z:Int):List UInt8:=(if z<0 then[45] else[])++Lib.decDigits z.natAbs
end
section
open Go.ChangeShapes Go.WideShapes Go.ChangeAt Go.RowKit Go.Sort Go.Lib Go.Joins
attribute [local go_sem ↓] aE
attribute [local go_sem] aJ aI aM
def dM(w : World): Prop := Lib.TabIs Tryz.prog w "internal/strconv.uint64pow10" .u64 Lib.pow10Tab
theorem dM.up(h : dM w)(hb : Below w.heap.size w w'): dM w' := tab_stays (show Tryz.prog.globalNamed "internal/strconv.uint64pow10" = some 1 by kernel_rfl) h hb lR
theorem aZe(w:Wo)(o:Obj)(dk:Array UInt8)(k:Nat):∃os,(putRow (fun(b:UInt8)=>Value.int .u8 (b.toNat:Int)) (w.alloc o) w.heap.size 0 dk).drewN k=grow (w.drewN k) os:=by
 rw[alloc_eq_grow];obtain⟨os',_,e⟩:=putRow_grow_new (fun(b:UInt8)=>Value.int .u8 (b.toNat:Int)) w #[o] w.heap.size 0 dk lR;exact⟨os',by rw[e];rfl⟩
theorem aN3(w:Wo)(T:TypeId)(nd:Nat)(hs:nd<=24):Holds (fun(b:UInt8)=>Value.int .u8 (b.toNat:Int)) (w.alloc (.cells Lib.zeros24 T)) w.heap.size 0 (Array.replicate nd (0:UInt8)):=fun j hj=>by
 have hj':j<nd:=by simpa using hj
 refine⟨?_,World.frozen?_alloc_new _ _ _ _⟩;rw[World.cell?_alloc_new,Lib.zeros24_at _ (by omega),getElem!_pos _ j hj];simp
theorem aFv(u:Nat)(XE:u<18446744073709551616)(w:Wo)(ht:dM w):Calls Tryz.prog 171 #[.int .u64 u,.int .i64 10] w fun e w'=>e=.returned (.string ⟨(Lib.decDigits u).toArray⟩)/\Below w.heap.size w w':=by
 have HT:=lH ht;clear ht;by_cases hs:u<100
 ·go_enter Tryz.func171,Tryz.ntmps171
  (go_wp2_with fail);refine(Tryz.internal_strconv_small u hs w).mono ?_;rintro e w' ⟨rfl,rfl⟩;(go_wp2_with fail);go_ret;exact⟨rfl,bR⟩
 ·have hu1:1<=u:=by omega
  have a15:Lib.nDigits u<=20:=by have:=Lib.numDigits_eq u hu1 XE;split at this<;>omega
  have A_:Tryz.prog.arrayLen 253=24:=by simp[Program.arrayLen,Tryz.underlying253]
  have aJC:∀W,(Instr.sliceAt 253 (.pointer (some ⟨w.heap.size,0,none⟩)) none (some (.int .i64 (Lib.nDigits u:Int))) none).run Tryz.prog W=.ok (.slice (some ⟨w.heap.size,0,none⟩) (Lib.nDigits u) 24) W:=fun W=>by
   rw[run_sliceAt_array_h W 253 ⟨w.heap.size,0,none⟩ (by simp[Program.arrayLen,Program.elem,Tryz.underlying253]) .i64 (Lib.nDigits u:Int) (by omega) (by rw[A_];omega)];go_simp
  have hH0:=aN3 w 253 (Lib.nDigits u) (by omega);have aOs:=Tryz.internal_strconv_formatBase10 w.heap.size 0 24 u (Array.replicate (Lib.nDigits u) 0) (w.alloc (.cells Lib.zeros24 253)) hH0 (by rw[Array.size_replicate];exact Lib.lt_pow_nDigits u) XE (by rw[Array.size_replicate];omega);rw[Array.size_replicate] at aOs;have HH0:=lH hH0;have HF:=lH aOs;clear hH0 A_ aOs;go_enter Tryz.func171,Tryz.ntmps171
  (go_wp2_with fail);refine(Tryz.internal_strconv_numDigits u hu1 XE _ (Lib.tabIs_alloc HT.o (.cells Lib.zeros24 253))).mono ?_;rintro e w1 ⟨rfl,rfl⟩;(go_wp2_with fail);refine HF.o.mono ?_;rintro e w' ⟨rfl,k,v',dk,rfl,hF⟩;have XS:(convert 231 9 (.slice (some ⟨w.heap.size,0,none⟩) (Lib.nDigits u) 24)).run Tryz.prog ((putRow (fun(b:UInt8)=>Value.int .u8 (b.toNat:Int)) (w.alloc (.cells Lib.zeros24 253)) w.heap.size 0 dk).drewN k)=.ok (.string ⟨(Lib.decDigits u).toArray⟩) ((putRow (fun(b:UInt8)=>Value.int .u8 (b.toNat:Int)) (w.alloc (.cells Lib.zeros24 253)) w.heap.size 0 dk).drewN k):=by
   have h:=run_convert_bytes_back (P:=Tryz.prog) ((putRow (fun(b:UInt8)=>Value.int .u8 (b.toNat:Int)) (w.alloc (.cells Lib.zeros24 253)) w.heap.size 0 dk).drewN k) 231 9 5 ⟨w.heap.size,0,none⟩ 24 (Lib.decDigits u) Tryz.underlying231 Tryz.underlying5 Tryz.underlying9 (fun j hj=>by
    rw[Lib.row_is_numeral hF j hj,Lib.add_plain,World.cell?_drewN];exact cell?_putRow (fun(b:UInt8)=>Value.int .u8 (b.toNat:Int)) _ w.heap.size 0 _ dk HH0.o (by rw[hF.size,Array.size_replicate]) j (by rw[hF.size];rw[Lib.decDigits_length] at hj;exact hj))
   rw[Lib.decDigits_length] at h;exact h
  have aOv:(convert 231 9 (.slice (some ⟨w.heap.size,0,none⟩) (Lib.nDigits u) 24)).run Tryz.prog (putRow (fun(b:UInt8)=>Value.int .u8 (b.toNat:Int)) (w.alloc (.cells Lib.zeros24 253)) w.heap.size 0 dk)=.ok (.string ⟨(Lib.decDigits u).toArray⟩) (putRow (fun(b:UInt8)=>Value.int .u8 (b.toNat:Int)) (w.alloc (.cells Lib.zeros24 253)) w.heap.size 0 dk):=by
   have h:=run_convert_bytes_back (P:=Tryz.prog) (putRow (fun(b:UInt8)=>Value.int .u8 (b.toNat:Int)) (w.alloc (.cells Lib.zeros24 253)) w.heap.size 0 dk) 231 9 5 ⟨w.heap.size,0,none⟩ 24 (Lib.decDigits u) Tryz.underlying231 Tryz.underlying5 Tryz.underlying9 (fun j hj=>by
    rw[Lib.row_is_numeral hF j hj,Lib.add_plain];exact cell?_putRow (fun(b:UInt8)=>Value.int .u8 (b.toNat:Int)) _ w.heap.size 0 _ dk HH0.o (by rw[hF.size,Array.size_replicate]) j (by rw[hF.size];rw[Lib.decDigits_length] at hj;exact hj))
   rw[Lib.decDigits_length] at h;exact h
  obtain⟨os,eo⟩:=aZe w (.cells Lib.zeros24 253) dk k;have HEO:=lH eo;clear eo;(go_wp2_with fail);go_ret;exact⟨rfl,by rw[HEO.o];exact Lib.below_grow w.heap.size w lR k os⟩
theorem aJ4(u:Nat)(XE:u<18446744073709551616)(w:Wo)(ht:dM w):Calls Tryz.prog 151 #[.int .u64 u,.int .i64 10] w fun e w'=>e=.returned (.string ⟨(Lib.decDigits u).toArray⟩)/\Below w.heap.size w w':=by
 have HT:=lH ht;clear ht;go_enter Tryz.func151,Tryz.ntmps151
 go_wp2_with fail
 refine(aFv u XE w HT.o).mono ?_;rintro e w' ⟨rfl,hb⟩;have HB:=lH hb;clear hb
 go_wp2_with fail
 go_ret;exact⟨rfl,HB.o⟩
end
section
def kQ(l:List UInt8):Prop:=∀c∈l,P5 c
theorem kQ.take(h:kQ l)(n:Nat):kQ (l.take n):=fun c hc=>h c (List.mem_of_mem_take hc)
theorem kQ.drop(h:kQ l)(n:Nat):kQ (l.drop n):=fun c hc=>h c (List.mem_of_mem_drop hc)
theorem puM:∀(l:List UInt8)(mx acc:Nat),kQ l->mx<=4294967295->dvg acc l<=mx->Lib.parseUintM mx acc l=.ok (dvg acc l)
 | [],mx,acc,_,_,_=>rfl
 | c::r,mx,acc,h,h4,hm=>by
  have hc:=h c (List.mem_cons_self ..);have hr:kQ r:=fun x hx=>h x (List.mem_cons_of_mem _ hx);have e:dvg acc (c::r)=dvg (acc*10+(c.toNat-48)) r:=rfl;rw[e] at hm ⊢;have FQ:acc*10+(c.toNat-48)<=dvg (acc*10+(c.toNat-48)) r:=by
   rw[CR];have:1<=10^r.length:=Nat.one_le_pow _ _ (by decide);have:=Nat.mul_le_mul_left (acc*10+(c.toNat-48)) this;omega
  have ih:=puM r mx _ hr h4 hm;unfold Lib.parseUintM;rw[if_pos (show 48<=c.toNat/\c.toNat<=57 from hc),if_neg (by omega),if_neg (by omega)];exact ih
theorem aW0(h:kQ l)(h0:l≠[])(h9:l.length<=9):Lib.parseUintB 32 l=.ok (dv l):=by
 unfold Lib.parseUintB;rw[if_neg h0];refine puM l _ 0 h (by decide) ?_;have h1:=J5 h;have h2:10^l.length<=10^9:=Nat.pow_le_pow_right (by decide) h9;show dv l<=_;omega
theorem aKd(l m:List UInt8)(h:l=[]\/m.length=9):dv (l++m)=dv l*1000000000+dv m:=by
 rw[yL];rcases h with rfl | h
 ·simp[dv,dvg]
 ·rw[h]
theorem PN(h:kQ l):dL (dv l)<=l.length:=by
 refine lE (jE (J5 h) ?_);exact Nat.pow_le_pow_left (by decide) _
end
section
open Go.ChangeShapes Go.WideShapes Go.ChangeAt Go.RowKit
section
variable {P:Program}
end
theorem aEP(h:w.ownsRow base e size v n xs)(hb:Below w.heap.size w w'):w'.ownsRow base e size v n xs:=by
 refine⟨h.1,?_⟩;rcases h.2 with h1 | ⟨g,cap,cur,h1,h2,h3,h4⟩
 ·exact .inl h1
 ·refine .inr ⟨g,cap,cur,h1,h2,?_,h4⟩
  exact(hb.block g (Array.getElem?_eq_some_iff.1 h3).1).trans h3
theorem aEO(w:Wo)(base e size:Nat):w.ownsRow base e size (.slice none 0 0) 0 []:=⟨by simp,.inl ⟨rfl,rfl⟩⟩
theorem AD(h:w.ownsRow base e size v n xs):∃A c,v=.slice A n c/\Rd w w.heap.size size A n xs/\n<=c/\c<=maxLen/\(0<n->∃b off,A=some ⟨b,off,none⟩/\base<=b):=by
 have hl:=h.1;rcases h.2 with⟨h1,h2⟩ | ⟨g,cap,cur,h1,h2,h3,h4,h5,h6,h7⟩
 ·subst h2
  exact⟨none,0,h1,⟨hl,fun h=>by omega⟩,lR,by simp[maxLen],fun h=>by omega⟩
 ·refine⟨some ⟨g,0,none⟩,cap,h1,⟨hl,fun _=>⟨g,0,rfl,(Array.getElem?_eq_some_iff.1 h3).1,fun j u hu=>?_⟩⟩,h4,h5,fun _=>⟨g,0,rfl,h2⟩⟩
  have hb:aG w g e cur:=h3;rw[Nat.zero_add,hb.cell j];rw[<-h7] at hu;have hj:=(dH.1 hu).1;rw[kR] at hj;rw[List.getElem?_take_of_lt (by omega)] at hu;simpa using hu
def bK(S:Value->Prop)(w:Wo)(base:Nat)(e:TypeId)(size:Nat)(v:Value)(n:Nat)(xs:List Value):Prop:=
 xs.length=n*size/\((v=.slice none 0 0/\n=0)\/∃g cap cur,v=.slice (some ⟨g,0,none⟩) n cap/\base<=g/\aG w g e cur/\n<=cap/\cap<=maxLen/\cur.size=cap*size/\cur.toList.take (n*size)=xs/\∀u∈cur.toList,S u)
structure d8 (S:Value->Prop) (base:Nat) (e:TypeId) (w w':Wo):Prop where
 low:Below base w w'
 size:w.heap.size<=w'.heap.size
 cell:∀p u,w.cell? p=some u->¬S u->w'.cell? p=some u
 blk:∀b t cs,aG w b t cs->t≠e->aG w' b t cs
section
variable {S:Value->Prop} {w w':Wo} {base e size n:Nat} {v:Value} {xs:List Value}
theorem bK.own(h:bK S w base e size v n xs):w.ownsRow base e size v n xs:=by
 refine⟨h.1,?_⟩;rcases h.2 with h1 | ⟨g,cap,cur,h1,h2,h3,h4,h5,h6,h7,_⟩
 ·exact .inl h1
 ·exact .inr ⟨g,cap,cur,h1,h2,h3,h4,h5,h6,h7⟩
theorem bK.keep(h:bK S w base e size v n xs)(hb:Below w.heap.size w w'):bK S w' base e size v n xs:=by
 refine⟨h.1,?_⟩;rcases h.2 with h1 | ⟨g,cap,cur,h1,h2,h3,h4⟩
 ·exact .inl h1
 ·exact .inr ⟨g,cap,cur,h1,h2,h3.bl hb,h4⟩
theorem eQ(S:Value->Prop)(w:Wo)(base e size:Nat):bK S w base e size (.slice none 0 0) 0 []:=⟨by simp,.inl ⟨rfl,rfl⟩⟩
theorem d8.old(h:∀i,i<w.heap.size->w'.heap[i]?=w.heap[i]?)(hs:w.heap.size<=w'.heap.size)(ho:w'.os=w.os)(ht:w'.tape=w.tape)(hp:w'.output=w.output)(hbs:base<=w.heap.size):d8 S base e w w':=
 ⟨⟨ho,ht,hp,hs,fun i hi=>h i (jE hi hbs)⟩,hs,fun p u hu _=>(World.cell?_of_block (h _ (World.block_lt_of_cell? w p hu))).trans hu,fun b t cs hb _=>(h b hb.lt).trans hb⟩
theorem aDO{z:Array Value}{u:Value}(h:u∈(Builtin.zeroCells z k).toList):u∈z.toList:=by
 unfold Builtin.zeroCells at h;rw[Array.mem_toList_iff,Array.mem_map] at h;obtain⟨i,hi,rfl⟩:=h;rw[Array.mem_range] at hi;have hz:0<z.size:=by
  rcases Nat.eq_zero_or_pos z.size with e | e
  ·rw[e] at hi;simp at hi
  ·exact e
 have hm:i % z.size<z.size:=Nat.mod_lt _ hz;rw[getElem!_pos z _ hm];exact Array.mem_toList_iff.2 (Array.getElem_mem hm)
end
section
variable {P:Program}
theorem pN{S:Value->Prop}(w:Wo)(base:Nat)(t ty e:TypeId)(i:TypeInfo)(z:Value)(size bytes:Nat)(ht:P.underlying t=some (.slice e))(hi:P.info? e=some i)(hz:i.zero=some z)(iN:i.size=size)(CM:i.bytes=bytes)(M3:z.cells.size=size)(iV:0<size)(UV:∀u∈z.cells.toList,S u)(v:Value)(n:Nat)(xs:List Value)(bB:bK S w base e size v n xs)(a:Addr)(m c:Nat)(news:List Value)(hl:news.length=m*size)(jY:∀j u,news[j]?=some u->w.cell? (a.add j)=some u)(h1:∀u∈news,u.oneCell'=true/\S u)(xC:n+m<=maxLen)(iG:(n+m)*bytes<=140737488355328)(cS:base<=w.heap.size)(hm:0<m):∃v' w',(Builtin.append_ #[t,t] ty #[v,.slice (some a) m c]).run P w=.ok v' w'/\bK S w' base e size v' (n+m) (xs++news)/\d8 S base e w w'/\(v'.ownBlock=v.ownBlock\/v'.ownBlock=some w.heap.size):=by
 subst iN;subst CM;have aNP:n+m<=9223372036854775807:=by simp only[maxLen] at xC;omega
 have dW:(xs++news).length=(n+m)*i.size:=by rw[jW,bB.1,hl,Nat.add_mul]
 have fresh:∀(old:Nat),(∀u∈xs,S u)->
     bK S (w.drew.alloc (.cells (xs.toArray++news.toArray++Builtin.zeroCells z.cells (grownCap w (n+m) old e-(n+m))) e)) base e i.size (.slice (some ⟨w.heap.size,0,none⟩) (n+m) (grownCap w (n+m) old e)) (n+m) (xs++news)/\
     d8 S base e w (w.drew.alloc (.cells (xs.toArray++news.toArray++Builtin.zeroCells z.cells (grownCap w (n+m) old e-(n+m))) e)):=by
  intro old hx;have QU:=grownCap_ge w (n+m) old e;refine⟨⟨dW,.inr ⟨w.heap.size,_,_,rfl,cS,aG.new w.drew _ _,QU,grownCap_le_maxLen w (n+m) old e xC,?_,?_,?_⟩⟩,d8.old (fun k hk=>heap_alloc_old w.drew _ hk) (by simp) rfl rfl rfl cS⟩
  ·rw[Array.size_append,Array.size_append,List.size_toArray,List.size_toArray,size_zeroCells,M3,bB.1,hl,<-Nat.add_mul,<-Nat.add_mul,Nat.add_sub_cancel' QU]
  ·rw[Array.toList_append,Array.toList_append,<-dW]
   exact List.take_left
  ·intro u hu
   rw[Array.toList_append,Array.toList_append,List.mem_append,List.mem_append] at hu;rcases hu with(hu | hu) | hu
   ·exact hx u (by simpa using hu)
   ·exact(h1 u (by simpa using hu)).2
   ·exact UV u (aDO hu)
 rcases bB.2 with⟨rfl,rfl⟩ | ⟨g,cap,cur,rfl,hbg,hg,hnc,LQ,S7,aFB,hS⟩
 ·have hx:xs=[]:=List.eq_nil_of_length_eq_zero (by simpa using bB.1)
  subst hx;have hr:=run_append_nil (P:=P) w t ty e i z ht hi hz a m c news hl jY hm (by omega) (by have hb:=iG;rw[Nat.zero_add] at hb;omega);obtain⟨f1,f2⟩:=fresh 0 (by simp);simp only[Nat.zero_add,List.nil_append,Array.empty_append] at f1 f2 ⊢;exact⟨_,_,hr,f1,f2,.inr rfl⟩
 ·have hxS:∀u∈xs,S u:=fun u hu=>hS u (List.mem_of_mem_take (by rw[aFB];exact hu))
  by_cases CI:n+m<=cap
  ·have uL:n*i.size+news.length<=cur.size:=by rw[hl,S7,<-Nat.add_mul];exact Nat.mul_le_mul_right _ CI
   have hr:=run_append_room (P:=P) w t ty e i ht hi g n cap cur hg a m c news hl jY (fun u hu=>(h1 u hu).1) CI uL;have SY:∀k,k≠g->(w.setRow g (cur.toList.take (n*i.size)++news++cur.toList.drop (n*i.size+news.length)).toArray).heap[k]?=w.heap[k]?:=fun k hk=>setRow_other w g k _ hk;refine⟨_,_,hr,⟨dW,.inr ⟨g,cap,_,rfl,hbg,setRow_heap w g cur _ e _ hg,CI,LQ,?_,?_,?_⟩⟩,⟨⟨rfl,rfl,rfl,by simp,fun k hk=>SY k (by omega)⟩,by simp,fun p u hu hn=>?_,fun b t' cs hb bX=>?_⟩,.inl rfl⟩
   ·rw[List.size_toArray,jW,jW,kR,LC,Array.length_toList]
    omega
   ·rw[aFB,<-dW]
    exact List.take_left
   ·intro u hu
    rw[List.mem_append,List.mem_append] at hu;rcases hu with(hu | hu) | hu
    ·exact hS u (List.mem_of_mem_take hu)
    ·exact(h1 u hu).2
    ·exact hS u (List.mem_of_mem_drop hu)
   ·have hpg:p.block≠g:=by
     intro e;obtain⟨b,off,sp⟩:=p;simp only at e;subst e;cases sp with
     | none=>
      have:=hg.cell off;rw[this] at hu;exact hn (hS u (Array.mem_toList_iff.2 (Array.mem_of_getElem? hu)))
     | some s=>
      unfold World.cell? at hu;rw[show w.heap[b]?=some (.cells cur _ (0,0)) from hg] at hu;simp at hu
    exact(World.cell?_of_block (SY _ hpg)).trans hu
   ·have aYQ:b≠g:=by
     rintro rfl;have h2:some (Obj.cells cs t' (0,0))=some (Obj.cells cur e (0,0)):=hb.symm.trans hg;injection h2 with h2;injection h2 with _ h2;exact bX h2
    exact(SY b aYQ).trans hb
  ·have holds:∀j u,xs[j]?=some u->w.cell? ((⟨g,0,none⟩:Addr).add j)=some u:=bB.own.cells (g:=g) rfl
   have hr:=run_append_grow (P:=P) w t ty e i z ht hi hz ⟨g,0,none⟩ n cap xs bB.1 holds a m c news hl jY (by omega) (by omega) (growslice_fits (by omega) iG);obtain⟨f1,f2⟩:=fresh cap hxS;exact⟨_,_,hr,f1,f2,.inr rfl⟩
theorem wK{S:Value->Prop}{ops:Array Oper}{rest:List Oper}{o:Oper}{a:Act}{Q:Exit->Act->World->Prop}{w:Wo}{lit:Array Value}{T:TypeId}(AK:o.guard=none)(s x:Operand)(t:TypeId)(ho:o.op=.call { callee:=.builtin .append,args:=#[s,x],argTypes:=#[t,t] })(base:Nat)(e:TypeId)(i:TypeInfo)(z:Value)(size bytes:Nat)(ht:P.underlying t=some (.slice e))(hi:P.info? e=some i)(hz:i.zero=some z)(iN:i.size=size)(CM:i.bytes=bytes)(M3:z.cells.size=size)(iV:0<size)(UV:∀u∈z.cells.toList,S u)(v:Value)(n:Nat)(xs:List Value)(hs:a.eval s=v)(bB:bK S w base e size v n xs)(hx:a.eval x=.slice (some ⟨w.heap.size,0,none⟩) 1 1)(hl:lit.size=size)(h1:∀u∈lit.toList,u.oneCell'=true/\S u)(xC:n+1<=maxLen)(iG:(n+1)*bytes<=140737488355328)(cS:base<=w.heap.size)(h:∀v' w',bK S w' base e size v' (n+1) (xs++lit.toList)->d8 S base e (w.alloc (.cells lit T)) w'->(v'.ownBlock=v.ownBlock\/v'.ownBlock=some (w.heap.size+1))->wpList P ops Q rest (a.put o.dst v') w'):wpList P ops Q (o::rest) a (w.alloc (.cells lit T)):=by
 refine wpList_plain AK fun K hK=>?_;obtain⟨v',w',hr,h2,h3,h4⟩:=pN (P:=P) (w.alloc (.cells lit T)) base t o.type e i z size bytes ht hi hz iN CM M3 iV UV v n xs (bB.keep (bA)) ⟨w.heap.size,0,none⟩ 1 1 lit.toList (by rw[Array.length_toList,hl,Nat.one_mul]) (fun j u hu=>by
  rw[Addr.add_lit,Nat.zero_add,(aG.new w T lit).cell j];simpa using hu) h1 xC iG (cO cS (by simp)) (by decide)
 unfold Oper.wp execOp;simp only[ho,resolve,invoke,builtin,Sem.run_bind,Sem.run_pure,Result.andThen_ok,List.map_toArray,List.map_cons,List.map_nil,hs,hx,hr];exact hK _ _ (h v' w' h2 h3 (by simpa using h4))
end
end
section
abbrev Fn:=Nat->Rat
def aN:Nat->Fn->Rat
 | 0,_=>0
 | n+1,f=>aN n f+f n
theorem aL:∀{n:Nat}{f g:Fn},(∀i,i<n->f i=g i)->aN n f=aN n g
 | 0,_,_,_=>rfl
 | n+1,f,g,h=>by rw[aN,aN,aL fun i hi=>h i (by omega),h n (by omega)]
theorem cX:∀{n:Nat}{f:Fn},(∀i,i<n->f i=0)->aN n f=0
 | 0,_,_=>rfl
 | n+1,f,h=>by rw[aN,cX fun i hi=>h i (by omega),h n (by omega)];exact Rat.add_zero 0
theorem cK(f g:Fn):∀n:Nat,aN n (fun i=>f i+g i)=aN n f+aN n g
 | 0=>(Rat.add_zero 0).symm
 | n+1=>by rw[aN,aN,aN,cK f g n];grind
theorem bL(c:Rat)(f:Fn):∀n:Nat,aN n (fun i=>c*f i)=c*aN n f
 | 0=>(Rat.mul_zero c).symm
 | n+1=>by rw[aN,aN,bL c f n];grind
theorem dQ{f:Fn}(hk:k<n)(h:∀i,i<n->i≠k->f i=0):aN n f=f k:=by
 induction n with
 | zero=>omega
 | succ n ih=>
  rw[aN];by_cases hn:k=n
  ·subst hn
   rw[cX fun i hi=>h i (by omega) (by omega),Rat.zero_add]
  ·rw[ih (by omega) (fun i hi zB=>h i (by omega) zB),h n (by omega) (fun e=>hn e.symm),Rat.add_zero]
theorem qI(f:Nat->Nat->Rat)(m:Nat):∀n:Nat,aN n (fun i=>aN m fun j=>f i j)=aN m (fun j=>aN n fun i=>f i j)
 | 0=>by
  rw[aN,cX];intro i _;rfl
 | n+1=>by
  rw[aN,qI f m n,<-cK];rfl
def aP(n:Nat)(a x:Fn):Rat:=aN n fun i=>a i*x i
theorem nB(n:Nat)(a x y:Fn):aP n a (fun i=>x i+y i)=aP n a x+aP n a y:=by
 unfold aP;rw[<-cK];exact aL fun i _=>by grind
theorem kO(n:Nat)(a x:Fn)(c:Rat):aP n a (fun i=>c*x i)=c*aP n a x:=by
 unfold aP;rw[<-bL];exact aL fun i _=>by grind
theorem aCz(n:Nat)(a b x:Fn):aP n (fun i=>a i+b i) x=aP n a x+aP n b x:=by
 unfold aP;rw[<-cK];exact aL fun i _=>by grind
theorem NG(n:Nat)(a x:Fn)(c:Rat):aP n (fun i=>c*a i) x=c*aP n a x:=by
 unfold aP;rw[<-bL];exact aL fun i _=>by grind
theorem nZ{a b x y:Fn}(h:∀i,i<n->a i=b i)(h2:∀i,i<n->x i=y i):aP n a x=aP n b y:=
 aL fun i hi=>by rw[h i hi,h2 i hi]
def Ker(n:Nat)(A:List Fn)(x:Fn):Prop:=∀a∈A,aP n a x=0
structure K3 (M:List Fn) (piv:List Nat) (k:Nat):Prop where
 le:piv.length<=M.length
 inc:piv.Pairwise (·<·)
 lt:∀p∈piv,p<k
 one:∀(t p:Nat)(a:Fn),piv[t]?=some p->M[t]?=some a->a p=1
 zer:∀(t p i:Nat)(a:Fn),piv[t]?=some p->M[i]?=some a->i≠t->a p=0
 low:∀(t p:Nat)(a:Fn),piv[t]?=some p->M[t]?=some a->∀j,j<p->a j=0
 rest:∀(i:Nat)(a:Fn),M[i]?=some a->piv.length<=i->∀j,j<k->a j=0
namespace K3
variable {B N base c e i j k n p r s size u : Nat} {L : List Oper} {R a b row : List Rat} {d f x : Rat} {ex piv ps : List Nat} {l : List UInt8} {m : Int} {v : Value} {w w' : World} {xs : List Value}
variable {M:List Fn} {piv:List Nat} {n:Nat}
def free(piv:List Nat)(n:Nat):List Nat:=(List.range n).filter fun j=>!piv.contains j
theorem nodup(E:K3 M piv n):piv.Nodup:=E.inc.imp fun h=>Nat.ne_of_lt h
theorem free_len(E:K3 M piv n):(free piv n).length+piv.length=n:=by
 have h1:((List.range n).filter fun j=>piv.contains j).length=piv.length:=by
  refine List.Perm.length_eq ((List.perm_ext_iff_of_nodup (List.Pairwise.filter _ List.nodup_range) E.nodup).2 fun a=>?_);rw[List.mem_filter,List.mem_range]
  constructor
  ·intro h;simpa using h.2
  ·intro h;exact⟨E.lt a h,by simpa using h⟩
 have h2:=List.length_eq_countP_add_countP (fun j=>piv.contains j) (l:=List.range n);rw[List.length_range,List.countP_eq_length_filter,List.countP_eq_length_filter,h1] at h2;unfold free;have h3:((List.range n).filter fun j=>!piv.contains j)=((List.range n).filter fun a=>decide ¬piv.contains a=true):=by
  congr 1
  funext j
  cases piv.contains j<;>rfl
 rw[h3];omega
theorem mem_free:j∈free piv n<->j<n/\j∉piv:=by
 unfold free;rw[List.mem_filter,List.mem_range];simp
theorem ker_zero(E:K3 M piv n){z:Fn}(hz:Ker n M z)(hf:∀j,j<n->j∉piv->z j=0):∀j,j<n->z j=0:=by
 intro j hj;by_cases hp:j∈piv
 ·obtain⟨t,ht⟩:=List.mem_iff_getElem?.1 hp
  have LM:=(dH.1 ht).1;obtain⟨a,ha⟩:∃a,M[t]?=some a:=⟨_,iB (jE LM E.le)⟩;have h:=hz a (bV ha);unfold aP at h;rw[dQ hj,E.one t j a ht ha,Rat.one_mul] at h
  ·exact h
  ·intro i hi tE
   by_cases hip:i∈piv
   ·obtain⟨s,hs⟩:=List.mem_iff_getElem?.1 hip
    rw[E.zer s i t a hs ha (fun e=>by subst e;rw[ht] at hs;injection hs with hs;exact tE hs.symm),Rat.zero_mul]
   ·rw[hf i hi hip,Rat.mul_zero]
 ·exact hf j hj hp
def bas(M:List Fn)(piv:List Nat)(c:Nat):Fn:=fun j=>if j=c then 1 else match piv.findIdx? (· == j) with
 | some t=>-((M.getD t (fun _=>0)) c)
 | none=>0
theorem bas_free(hj:j∉piv):bas M piv c j=if j=c then 1 else 0:=by
 unfold bas;by_cases h:j=c
 ·rw[if_pos h,if_pos h]
 ·rw[if_neg h,if_neg h]
  have:piv.findIdx? (· == j)=none:=List.findIdx?_eq_none_iff.2 fun x hx=>by
   have:x≠j:=fun e=>hj (e▸hx);simpa using this
  rw[this]
theorem bas_piv(E:K3 M piv n){t:Nat}{a:Fn}(hc:c∉piv)(ht:piv[t]?=some p)(ha:M[t]?=some a):bas M piv c p=-(a c):=by
 unfold bas;have hp:=bV ht;rw[if_neg (fun e:p=c=>hc (by rw[<-e];exact hp))];have:piv.findIdx? (· == p)=some t:=by
  rw[List.findIdx?_eq_some_iff_getElem];obtain⟨hl,he⟩:=dH.1 ht;refine⟨hl,by simp[he],fun j hj=>?_⟩;have h1:=(List.pairwise_iff_getElem.1 E.inc) j t (by omega) hl hj;rw[he] at h1;simp;omega
 rw[this];simp only;rw[dN,ha];rfl
theorem bas_ker(E:K3 M piv n)(hc:c<n)(hcp:c∉piv):Ker n M (bas M piv c):=by
 intro a ha;obtain⟨i,hi⟩:=List.mem_iff_getElem?.1 ha;by_cases hr:piv.length<=i
 ·unfold aP
  exact cX fun j hj=>by rw[E.rest i a hi hr j hj,Rat.zero_mul]
 ·obtain⟨p,hp⟩:∃p,piv[i]?=some p:=eA (by omega)
  have hpn:=E.lt p (bV hp);have hpc:p≠c:=fun e=>hcp (e▸bV hp);have key:∀j,j<n->a j*bas M piv c j=(if j=c then a c else 0)+(if j=p then -(a c) else 0):=fun j hj=>by
   by_cases hjp:j∈piv
   ·obtain⟨s,hs⟩:=List.mem_iff_getElem?.1 hjp
    have hjc:j≠c:=fun e=>hcp (e▸hjp);rw[if_neg hjc]
    by_cases hji:j=p
    ·subst hji
     rw[if_pos rfl,E.one i j a hp hi,E.bas_piv hcp hp hi,Rat.one_mul,Rat.zero_add]
    ·rw[if_neg hji,E.zer s j i a hs hi (fun e=>by subst e;rw[hp] at hs;injection hs with hs;exact hji hs.symm),Rat.zero_mul,Rat.add_zero]
   ·rw[bas_free hjp]
    have hji:j≠p:=fun e=>hjp (e▸bV hp);rw[if_neg hji,Rat.add_zero]
    by_cases h:j=c
    ·subst h;rw[if_pos rfl,if_pos rfl,Rat.mul_one]
    ·rw[if_neg h,if_neg h,Rat.mul_zero]
  unfold aP;rw[aL key,cK,dQ (k:=c) hc (fun i _ h=>if_neg h),dQ (k:=p) hpn (fun i _ h=>if_neg h),if_pos rfl,if_pos rfl];exact Rat.add_neg_cancel _
end K3
theorem MK{M:List Fn}(E:K3 M piv n):piv.length=n<->∀x,Ker n M x->∀j,j<n->x j=0:=by
 have hl:=E.free_len
 constructor
 ·intro h x hx
  refine E.ker_zero hx fun j hj hjp=>?_;have:j∈K3.free piv n:=K3.mem_free.2 ⟨hj,hjp⟩;rw[List.eq_nil_of_length_eq_zero (by omega:(K3.free piv n).length=0)] at this;cases this
 ·intro h
  refine Classical.byContradiction fun bX=>?_;obtain⟨c,hc⟩:∃c,c∈K3.free piv n:=List.exists_mem_of_length_pos (by omega);obtain⟨h1,h2⟩:=K3.mem_free.1 hc;have:=h _ (E.bas_ker h1 h2) c h1;rw[K3.bas_free h2,if_pos rfl] at this;exact absurd this (by decide)
end
section
open Go.ChangeShapes Go.WideShapes Go.ChangeAt Go.RowKit Go.Joins
section
variable {P:Program}
theorem d8.refl(S:Value->Prop)(base:Nat)(e:TypeId)(w:Wo):d8 S base e w w:=⟨bR,lR,fun _ _ h _=>h,fun _ _ _ h _=>h⟩
theorem bK.shape{S:Value->Prop}(h:bK S w base e size v n xs):∃A c,v=.slice A n c/\n<=c/\c<=maxLen:=by
 rcases h.2 with⟨h1,h2⟩ | ⟨g,cap,cur,h1,h2,h3,h4,h5,h6⟩
 ·subst h2;exact⟨none,0,h1,lR,by simp[maxLen]⟩
 ·exact⟨_,cap,h1,h4,h5⟩
theorem LF{S:Value->Prop}(w:Wo)(base:Nat)(t ty e:TypeId)(i:TypeInfo)(z:Value)(size bytes:Nat)(ht:P.underlying t=some (.slice e))(hi:P.info? e=some i)(hz:i.zero=some z)(iN:i.size=size)(CM:i.bytes=bytes)(M3:z.cells.size=size)(iV:0<size)(UV:∀u∈z.cells.toList,S u)(v:Value)(n:Nat)(xs:List Value)(bB:bK S w base e size v n xs)(A:OA)(m c:Nat)(news:List Value)(hr:Rd w w.heap.size size A m news)(h1:∀u∈news,u.oneCell'=true/\S u)(xC:n+m<=maxLen)(iG:(n+m)*bytes<=140737488355328)(cS:base<=w.heap.size):∃v' w',(Builtin.append_ #[t,t] ty #[v,.slice A m c]).run P w=.ok v' w'/\bK S w' base e size v' (n+m) (xs++news)/\d8 S base e w w'/\(v=.slice none 0 0->Below w.heap.size w w'/\bK S w' w.heap.size e size v' (n+m) (xs++news))/\(v'.ownBlock=v.ownBlock\/v'.ownBlock=some w.heap.size):=by
 rcases Nat.eq_zero_or_pos m with rfl | h0
 ·have hn:news=[]:=List.eq_nil_of_length_eq_zero (by simpa using hr.1)
  subst hn;obtain⟨A1,c1,rfl,hc,hc2⟩:=bB.shape;have rI:Src P i.size t (.slice A 0 c) 0 [] w:=by
   cases A with
   | none=>exact Src.ofNil w ht c
   | some ad=>exact Src.ofSlice w ht ad 0 c [] (by simp) (fun j u hu=>by simp at hu) (fun u hu=>by cases hu)
  refine⟨_,w,run_append_nothing (P:=P) w t t ty e i ht hi A1 n c1 hc (.slice A 0 c) rI,by rw[List.append_nil];exact bB,d8.refl _ _ _ _,fun hv=>⟨bR,?_⟩,.inl rfl⟩;injection hv with a1 a2 a3;subst a1;subst a2;subst a3;rw[List.append_nil];exact⟨bB.1,.inl ⟨rfl,rfl⟩⟩
 ·obtain⟨b,off,rfl,hb,hc⟩:=hr.2 h0
  by_cases hv:v=.slice none 0 0
  ·subst hv
   have vH:bK S w w.heap.size e size (.slice none 0 0) n xs:=by
    refine⟨bB.1,?_⟩;rcases bB.2 with h | ⟨g,cap,cur,h,_⟩
    ·exact .inl h
    ·cases h
   obtain⟨v',w',g1,g2,g3,g4⟩:=pN (P:=P) w w.heap.size t ty e i z size bytes ht hi hz iN CM M3 iV UV _ n xs vH ⟨b,off,none⟩ m c news hr.1 (fun j u hu=>by rw[Addr.add_lit];exact hc j u hu) h1 xC iG lR h0;refine⟨v',w',g1,⟨g2.1,?_⟩,⟨⟨g3.low.os,g3.low.tape,g3.low.output,g3.low.size,fun k hk=>g3.low.block k (jE hk cS)⟩,g3.size,g3.cell,g3.blk⟩,fun _=>⟨g3.low,g2⟩,g4⟩;exact g2.2.imp id fun⟨g,cap,cur,k1,k2,k3⟩=>⟨g,cap,cur,k1,cO cS k2,k3⟩
  ·obtain⟨v',w',g1,g2,g3,g4⟩:=pN (P:=P) w base t ty e i z size bytes ht hi hz iN CM M3 iV UV v n xs bB ⟨b,off,none⟩ m c news hr.1 (fun j u hu=>by rw[Addr.add_lit];exact hc j u hu) h1 xC iG cS h0
   exact⟨v',w',g1,g2,g3,fun h=>absurd h hv,g4⟩
theorem ZF{S:Value->Prop}{o:Oper}{a:Act}{w:Wo}{K:Act->World->Prop}{Q:Exit->Act->World->Prop}(s x:Operand)(t:TypeId)(ho:o.op=.call { callee:=.builtin .append,args:=#[s,x],argTypes:=#[t,t] })(base:Nat)(e:TypeId)(i:TypeInfo)(z:Value)(size bytes:Nat)(ht:P.underlying t=some (.slice e))(hi:P.info? e=some i)(hz:i.zero=some z)(iN:i.size=size)(CM:i.bytes=bytes)(M3:z.cells.size=size)(iV:0<size)(UV:∀u∈z.cells.toList,S u)(v:Value)(n:Nat)(xs:List Value)(hs:a.eval s=v)(bB:bK S w base e size v n xs)(A:OA)(m c:Nat)(news:List Value)(hx:a.eval x=.slice A m c)(hr:Rd w w.heap.size size A m news)(h1:∀u∈news,u.oneCell'=true/\S u)(xC:n+m<=maxLen)(iG:(n+m)*bytes<=140737488355328)(cS:base<=w.heap.size)(h:∀v' w',bK S w' base e size v' (n+m) (xs++news)->d8 S base e w w'->(v=.slice none 0 0->Below w.heap.size w w'/\bK S w' w.heap.size e size v' (n+m) (xs++news))->(v'.ownBlock=v.ownBlock\/v'.ownBlock=some w.heap.size)->K (a.put o.dst v') w'):o.wp P a w K Q:=by
 obtain⟨v',w',g1,g2,g3,g4,g5⟩:=LF (P:=P) w base t o.type e i z size bytes ht hi hz iN CM M3 iV UV v n xs bB A m c news hr h1 xC iG cS;unfold Oper.wp execOp;simp only[ho,resolve,invoke,builtin,Sem.run_bind,Sem.run_pure,Result.andThen_ok,List.map_toArray,List.map_cons,List.map_nil,hs,hx,g1];exact h v' w' g2 g3 g4 g5
theorem oS{S:Value->Prop}{ops:Array Oper}{rest:List Oper}{o:Oper}{a:Act}{Q:Exit->Act->World->Prop}{w:Wo}(AK:o.guard=none)(s x:Operand)(t:TypeId)(ho:o.op=.call { callee:=.builtin .append,args:=#[s,x],argTypes:=#[t,t] })(base:Nat)(e:TypeId)(i:TypeInfo)(z:Value)(size bytes:Nat)(ht:P.underlying t=some (.slice e))(hi:P.info? e=some i)(hz:i.zero=some z)(iN:i.size=size)(CM:i.bytes=bytes)(M3:z.cells.size=size)(iV:0<size)(UV:∀u∈z.cells.toList,S u)(v:Value)(n:Nat)(xs:List Value)(hs:a.eval s=v)(bB:bK S w base e size v n xs)(A:OA)(m c:Nat)(news:List Value)(hx:a.eval x=.slice A m c)(hr:Rd w w.heap.size size A m news)(h1:∀u∈news,u.oneCell'=true/\S u)(xC:n+m<=maxLen)(iG:(n+m)*bytes<=140737488355328)(cS:base<=w.heap.size)(h:∀v' w',bK S w' base e size v' (n+m) (xs++news)->d8 S base e w w'->(v=.slice none 0 0->Below w.heap.size w w'/\bK S w' w.heap.size e size v' (n+m) (xs++news))->(v'.ownBlock=v.ownBlock\/v'.ownBlock=some w.heap.size)->wpList P ops Q rest (a.put o.dst v') w'):wpList P ops Q (o::rest) a w:=by
 refine wpList_plain AK fun K hK=>?_;exact ZF s x t ho base e i z size bytes ht hi hz iN CM M3 iV UV v n xs hs bB A m c news hx hr h1 xC iG cS fun v' w' a1 a2 a3 a4=>hK _ _ (h v' w' a1 a2 a3 a4)
end
end
section
open Go
def fG(u:Nat)(m:Int)(s:List Int×List Nat)(x:Nat×Nat):List Int×List Nat:=
 if(x.1=u\/x.2=u)/\s.1.getD (x.1+x.2-u) 0<0 then(s.1.set (x.1+x.2-u) m,s.2++[x.1+x.2-u]) else s
def lJ(u:Nat)(m:Int)(es:List (Nat×Nat))(s:List Int×List Nat):List Int×List Nat:=es.foldl (fG u m) s
def rH(m:Int)(es:List (Nat×Nat)):Nat->List Int->List Nat->List Int
 | 0,out,_=>out
 | _+1,out,[]=>out
 | f+1,out,u::q=>rH m es f (lJ u m es (out,q)).1 (lJ u m es (out,q)).2
def OO(n:Nat)(es:List (Nat×Nat)):Nat->Nat->List Int×Int->List Int×Int
 | 0,_,s=>s
 | k+1,i,s=>if 0<=s.1.getD i 0 then OO n es k (i+1) s else OO n es k (i+1) (rH s.2 es (n+1) (s.1.set i s.2) [i],s.2+1)
def gR(n:Nat)(es:List (Nat×Nat)):List Int:=(OO n es n 0 (List.replicate n (-1),0)).1
def B8(l:List Int):Nat:=(l.filter (·<0)).length
theorem B7:∀(l:List Int)(i:Nat)(m:Int),0<=m->i<l.length->l.getD i 0<0->B8 (l.set i m)+1=B8 l
 | [],i,m,_,h,_=>by simp at h
 | x::r,0,m,hm,_,h=>by
  have hx:x<0:=by simpa using h
  have h1:¬m<0:=by omega
  simp[B8,hx,h1]
 | x::r,i+1,m,hm,hl,h=>by
  have ih:=B7 r i m hm (by simpa using hl) (by simpa using h);unfold B8 at ih ⊢;rw[List.set_cons_succ];by_cases hx:x<0<;>simp[List.filter_cons,hx]<;>omega
structure Ps (n:Nat) (m:Int) (out:List Int) (q:List Nat):Prop where
 len:out.length=n
 lt:∀u∈q,u<n
 bd:∀x∈out,-1<=x/\x<=m
theorem R2{s:List Int×List Nat}{x:Nat×Nat}(hm:0<=m)(hx:x.1<n/\x.2<n)(h:Ps n m s.1 s.2):Ps n m (fG u m s x).1 (fG u m s x).2/\(fG u m s x).2.length+B8 (fG u m s x).1=s.2.length+B8 s.1/\s.2.length<=(fG u m s x).2.length:=by
 unfold fG;split
 ·rename_i hc
  have ho:x.1+x.2-u<n:=by omega
  refine⟨⟨by simp[h.len],fun v hv=>?_,fun y hy=>?_⟩,?_,by simp⟩
  ·rcases List.mem_append.1 hv with hv | hv
   ·exact h.lt v hv
   ·rw[List.mem_singleton.1 hv];exact ho
  ·rcases List.mem_or_eq_of_mem_set hy with hy | rfl
   ·exact h.bd y hy
   ·omega
  ·have:=B7 s.1 _ m hm (by rw[h.len];exact ho) hc.2
   simp;omega
 ·exact⟨h,rfl,lR⟩
theorem JD{u:Nat}(hm:0<=m):∀{es:List (Nat×Nat)} {s:List Int×List Nat},(∀x∈es,x.1<n/\x.2<n)->Ps n m s.1 s.2->
    Ps n m (lJ u m es s).1 (lJ u m es s).2/\(lJ u m es s).2.length+B8 (lJ u m es s).1=s.2.length+B8 s.1
 | [],s,_,h=>⟨h,rfl⟩
 | x::r,s,hx,h=>by
  have h1:=R2 (u:=u) hm (hx x (List.mem_cons_self ..)) h;have h2:=JD (u:=u) hm (fun y hy=>hx y (List.mem_cons_of_mem _ hy)) h1.1;exact⟨h2.1,h2.2.trans h1.2.1⟩
theorem G7(hm:0<=m){es:List (Nat×Nat)}(hx:∀x∈es,x.1<n/\x.2<n):∀(f:Nat){out:List Int}{q:List Nat},Ps n m out q->(rH m es f out q).length=n/\(∀x∈rH m es f out q,-1<=x/\x<=m)
 | 0,out,q,h=>⟨h.len,h.bd⟩
 | f+1,out,[],h=>⟨h.len,h.bd⟩
 | f+1,out,u::q,h=>by
  have h1:Ps n m out q:=⟨h.len,fun v hv=>h.lt v (List.mem_cons_of_mem _ hv),h.bd⟩;exact G7 hm hx f (JD (s:=(out,q)) hm hx h1).1
theorem Z4(l:List Int):B8 l<=l.length:=List.length_filter_le _ _
theorem VY(hm:0<=m)(s:List Int×List Nat)(x:Nat×Nat)(h:0<=s.1.getD j 0):0<=(fG u m s x).1.getD j 0:=by
 unfold fG;split
 ·simp only[dN] at h ⊢
  rw[List.getElem?_set];split
  ·split
   ·simpa using hm
   ·simp
  ·exact h
 ·exact h
theorem JE(hm:0<=m):∀(es:List (Nat×Nat)) (s:List Int×List Nat) {j:Nat},0<=s.1.getD j 0->0<=(lJ u m es s).1.getD j 0
 | [],s,j,h=>h
 | x::r,s,j,h=>JE hm r (fG u m s x) (VY hm s x h)
theorem MN(hm:0<=m)(es:List (Nat×Nat)):∀(f:Nat)(out:List Int)(q:List Nat){j:Nat},0<=out.getD j 0->0<=(rH m es f out q).getD j 0
 | 0,out,q,j,h=>h
 | f+1,out,[],j,h=>h
 | f+1,out,u::q,j,h=>MN hm es f _ _ (JE hm es (out,q) h)
theorem V1{es:List (Nat×Nat)}(hx:∀x∈es,x.1<n/\x.2<n):∀(k i:Nat)(s:List Int×Int),s.1.length=n->i+k=n->(∀x∈s.1,-1<=x/\x<s.2)->0<=s.2->s.2<=i->(∀j,j<i->0<=s.1.getD j 0)->
    (OO n es k i s).1.length=n/\(∀x∈(OO n es k i s).1,-1<=x/\x<n)/\∀j,j<n->0<=(OO n es k i s).1.getD j 0
 | 0,i,s,hl,hi,hb,h0,h1,hj=>by
  refine⟨hl,fun x hx=>?_,fun j h=>hj j (by omega)⟩;have:=hb x hx;omega
 | k+1,i,s,hl,hi,hb,h0,h1,hj=>by
  unfold OO;split
  ·rename_i hz
   exact V1 hx k (i+1) s hl (by omega) hb h0 (by omega) (fun j h=>by
    by_cases hji:j=i
    ·subst hji;exact hz
    ·exact hj j (by omega))
  ·rename_i hz
   have kT:i<s.1.length:=by omega
   have DF:Ps n s.2 (s.1.set i s.2) [i]:=⟨by simp[hl],fun v hv=>(by rw[List.mem_singleton.1 hv];omega),fun x hx=>by
    rcases List.mem_or_eq_of_mem_set hx with hx | rfl
    ·have:=hb x hx;omega
    ·omega⟩
   have h2:=G7 h0 hx (n+1) DF;refine V1 hx k (i+1) _ h2.1 (by omega) (fun x hx=>(by have:=h2.2 x hx;show _/\_<s.2+1;omega)) (by show 0<=s.2+1;omega) (by show s.2+1<=_;omega) (fun j h=>?_);refine MN h0 es _ _ _ ?_;rw[dN,List.getElem?_set];by_cases hji:i=j
   ·subst hji
    rw[if_pos rfl,if_pos kT];exact h0
   ·rw[if_neg hji,<-dN]
    exact hj j (by omega)
theorem qL{es:List (Nat×Nat)}(hx:∀x∈es,x.1<n/\x.2<n):(gR n es).length=n/\∀x∈gR n es,0<=x/\x<n:=by
 obtain⟨h1,h2,h3⟩:=V1 hx n 0 (List.replicate n (-1),0) (by simp) (by omega) (fun x hx=>(by rw[List.eq_of_mem_replicate hx];exact⟨by omega,show(-1:Int)<0 by omega⟩)) (by show(0:Int)<=0;omega) (by show(0:Int)<=_;omega) (fun j h=>by omega);refine⟨h1,fun x hx=>?_⟩;have h4:=h2 x hx;obtain⟨j,hj⟩:=List.mem_iff_getElem?.1 hx;have oP:=(dH.1 hj).1;have h5:=h3 j (by unfold gR at oP;omega);rw[dN,show(OO n es n 0 (List.replicate n (-1),0)).1[j]?=some x from hj] at h5;exact⟨h5,h4.2⟩
def IW(l:List Int):Int:=l.foldl (fun a b=>max a (b+1)) 0
theorem aCu(l:List Int):∀a:Int,a<=l.foldl (fun a b=>max a (b+1)) a/\(∀b∈l,b<l.foldl (fun a b=>max a (b+1)) a)/\∀c,a<=c->(∀b∈l,b<c)->l.foldl (fun a b=>max a (b+1)) a<=c:=by
 induction l with
 | nil=>intro a;exact⟨Int.le_refl _,fun _ h=>(by cases h),fun c h _=>h⟩
 | cons x r ih=>
  intro a;obtain⟨h1,h2,h3⟩:=ih (max a (x+1));rw[List.foldl_cons];refine⟨by omega,fun b hb=>?_,fun c hc hb=>h3 c ?_ (fun b h=>hb b (List.mem_cons_of_mem _ h))⟩
  ·rcases List.mem_cons.1 hb with rfl | hb
   ·omega
   ·exact h2 b hb
  ·have:=hb x (List.mem_cons_self ..);omega
theorem GV(l:List Int):0<=IW l/\(∀b∈l,b<IW l)/\∀c,0<=c->(∀b∈l,b<c)->IW l<=c:=aCu l 0
end
section
open Go.ChangeShapes Go.WideShapes Go.ChangeAt Go.RowKit Go.Deep
structure Qu (w:Wo) (base:Nat) (v:Value) (xs:List Value):Prop where
 ex:∃g off cap,v=.slice (some ⟨g,off,none⟩) xs.length cap/\base<=g/\g<w.heap.size/\xs.length<=cap/\cap<=maxLen/\(∀j,j<cap->(w.cell? ⟨g,off+j,none⟩).isSome=true/\w.frozen? ⟨g,off+j,none⟩=false)/\∀(j:Nat)(u:Value),xs[j]?=some u->w.cell? ⟨g,off+j,none⟩=some u
theorem Qu.up(h:Qu w base v xs)(hb:Below w.heap.size w w'):Qu w' base v xs:=by
 obtain⟨g,off,cap,h1,h2,h3,h4,h5,h6,h7⟩:=h.ex;exact⟨g,off,cap,h1,h2,jE h3 hb.size,h4,h5,fun j hj=>by rw[hb.cell h3,hb.frozen h3];exact h6 j hj,fun j u hu=>by rw[hb.cell h3];exact h7 j u hu⟩
theorem Qu.tail{g off cap:Nat}{x:Value}(h:Qu w base (.slice (some ⟨g,off,none⟩) n cap) (x::xs)):Qu w base (.slice (if cap=1 then some ⟨g,off,none⟩ else some ⟨g,off+1,none⟩) (n-1) (cap-1)) xs:=by
 obtain⟨g',off',cap',h1,h2,h3,h4,h5,h6,h7⟩:=h.ex;injection h1 with e1 e2 e3;injection e1 with e1;injection e1 with e4 e5;subst e2;subst e3;subst e4;subst e5;simp only[GS,Nat.add_sub_cancel] at h4 ⊢;by_cases hc:cap=1
 ·have hx:xs.length=0:=by omega
  rw[if_pos hc];refine⟨g,off,cap-1,rfl,h2,h3,by omega,by omega,fun j hj=>by omega,fun j u hu=>?_⟩;have:=(dH.1 hu).1;omega
 ·rw[if_neg hc]
  refine⟨g,off+1,cap-1,rfl,h2,h3,by omega,by omega,fun j hj=>?_,fun j u hu=>?_⟩
  ·rw[Nat.add_assoc,Nat.add_comm 1 j];exact h6 (j+1) (by omega)
  ·rw[Nat.add_assoc,Nat.add_comm 1 j];exact h7 (j+1) u (by simpa using hu)
theorem OL{P:Program}(w:Wo)(base:Nat)(t ty e:TypeId)(i:TypeInfo)(z:Value)(ht:P.underlying t=some (.slice e))(hi:P.info? e=some i)(hz:i.zero=some z)(iN:i.size=1)(CM:i.bytes<=16)(M3:z.cells.size=1)(v:Value)(xs:List Value)(h:Qu w base v xs)(a:Addr)(c:Nat)(u:Value)(hu:w.cell? a=some u)(h1:u.oneCell'=true)(ha:a.spot=none)(dW:xs.length<=1000000)(cS:base<=w.heap.size):∃v' w',(Builtin.append_ #[t,t] ty #[v,.slice (some a) 1 c]).run P w=.ok v' w'/\Qu w' base v' (xs++[u])/\Below base w w'/\∀g off n cap,v=.slice (some ⟨g,off,none⟩) n cap->w.grownBy w' (some g):=by
 obtain⟨g,off,cap,rfl,h2,h3,h4,h5,h6,h7⟩:=h.ex;have jY:∀(j:Nat)(x:Value),([u]:List Value)[j]?=some x->w.cell? (a.add j)=some x:=fun j x hx=>by
  have hj:j=0:=by have:=(dH.1 hx).1;simpa using this
  subst hj;simp at hx;subst hx;obtain⟨ab,ao,asp⟩:=a;simp only at ha;subst ha;rw[Addr.add_lit,Nat.add_zero];exact hu
 have rI:Src P i.size t (.slice (some a) 1 c) 1 [u] w:=Src.ofSlice w ht a 1 c [u] (by rw[iN];rfl) jY (fun x hx=>by rw[List.mem_singleton.1 hx];exact h1);by_cases CI:xs.length+1<=cap
 ·have hr:=run_append_room_src (P:=P) w t t ty e i ht hi g off xs.length cap _ 1 [u] rI CI
   (fun j hj=>by
    have GE:j=0:=by simpa using hj
    subst GE;rw[iN,Nat.mul_one,Nat.add_zero];exact(h6 xs.length (by omega)).1)
   (fun j hj=>by
    have GE:j=0:=by simpa using hj
    subst GE;rw[iN,Nat.mul_one,Nat.add_zero];exact(h6 xs.length (by omega)).2)
  rw[iN,Nat.mul_one] at hr;have kT:=World.cell?_setCells_in g [u] (off+xs.length) w (fun j hj=>by
   have GE:j=0:=by simpa using hj
   subst GE;rw[Nat.add_zero];exact(h6 xs.length (by omega)).1) 0 (by simp)
  rw[Nat.add_zero] at kT;have hb:Below base w (w.setCells g (off+xs.length) [u]):=(Below.refl base w).setCell (p:=⟨g,off+xs.length,none⟩) h2 u;have jI:∀j,j≠xs.length->(w.setCells g (off+xs.length) [u]).cell? ⟨g,off+j,none⟩=w.cell? ⟨g,off+j,none⟩:=fun j hj=>World.cell?_setCells_out g [u] (off+xs.length) w _ (fun _ _=>by simp only[List.length_singleton];omega);refine⟨_,_,hr,⟨g,off,cap,by rw[jW];rfl,h2,jE h3 hb.size,by rw[jW];simpa using CI,h5,fun j hj=>⟨?_,?_⟩,fun j x hx=>?_⟩,hb,?_⟩
  ·by_cases hje:j=xs.length
   ·subst hje;rw[kT];rfl
   ·rw[jI j hje];exact(h6 j hj).1
  ·rw[World.frozen?_setCells];exact(h6 j hj).2
  ·by_cases hje:j=xs.length
   ·subst hje
    rw[kT];simp at hx;rw[<-hx];rfl
   ·have hl:j<xs.length:=by have:=(dH.1 hx).1;rw[jW,List.length_singleton] at this;omega
    rw[jI j hje];rw[BD hl] at hx;exact h7 j x hx
  ·intro g' off' n' cap' e
   injection e with e _ _;injection e with e;injection e with e _;subst e;exact gU (p:=⟨g,off+xs.length,none⟩) (World.grownBy.refl w (some g)) (.inl rfl) u
 ·have hold:(Builtin.firstCells i.size xs.length (.slice (some ⟨g,off,none⟩) xs.length cap)).run P w.drew=.ok xs.toArray w.drew:=
   run_firstCells_some w.drew i.size xs.length ⟨g,off,none⟩ xs.length cap xs (by rw[iN,Nat.mul_one]) (fun j x hx=>by rw[Addr.add_lit];exact h7 j x hx)
  have hr:=run_append_grow_src (P:=P) w t t ty e i z ht hi hz (some ⟨g,off,none⟩) xs.length cap xs hold _ 1 [u] rI (by omega) (by omega)
   (growslice_fits_wide (by omega) (cO (Nat.mul_le_mul_left _ CM) (by omega)))
  have QU:=grownCap_ge w (xs.length+1) cap e;have LQ:grownCap w (xs.length+1) cap e<=maxLen:=grownCap_le_maxLen w (xs.length+1) cap e (by simp only[maxLen];omega);generalize grownCap w (xs.length+1) cap e=gc at *;have dC:=aG.new w.drew e ((xs++[u]).toArray++Builtin.zeroCells z.cells (gc-(xs.length+1)));have iV:((xs++[u]).toArray++Builtin.zeroCells z.cells (gc-(xs.length+1))).size=gc:=by
   rw[Array.size_append,size_zeroCells,M3];simp only[List.size_toArray,jW,List.length_singleton];omega
  have hb:Below base w (w.drew.alloc (.cells ((xs++[u]).toArray++Builtin.zeroCells z.cells (gc-(xs.length+1))) e)):=(bD (Below.refl base w) 1).alloc cS _;refine⟨_,_,hr,⟨w.heap.size,0,gc,by rw[jW];rfl,cS,by simp,by rw[jW];simpa using QU,LQ,fun j hj=>?_,fun j x hx=>?_⟩,hb,fun g' _ _ _ _=>WL (uA (World.grownBy.refl w (some g')) 1) _⟩
  ·rw[Nat.zero_add]
   refine⟨?_,dC.frozen j⟩;have:=dC.cell j;rw[show w.drew.heap.size=w.heap.size from rfl] at this;rw[this,Array.getElem?_eq_getElem (by omega)];rfl
  ·rw[Nat.zero_add]
   have:=dC.cell j;rw[show w.drew.heap.size=w.heap.size from rfl] at this;have hl:=(dH.1 hx).1;rw[this,Array.getElem?_append_left (by simpa using hl)];simpa using hx
theorem uX{P:Program}(w:Wo){ops:Array Oper}{rest:List Oper}{o:Oper}{a:Act}{Q:Exit->Act->World->Prop}(AK:o.guard=none)(s x:Operand)(t:TypeId)(ho:o.op=.call { callee:=.builtin .append,args:=#[s,x],argTypes:=#[t,t] })(base:Nat)(e:TypeId)(i:TypeInfo)(z:Value)(ht:P.underlying t=some (.slice e))(hi:P.info? e=some i)(hz:i.zero=some z)(iN:i.size=1)(CM:i.bytes<=16)(M3:z.cells.size=1)(v:Value)(xs:List Value)(hs:a.eval s=v)(h:Qu w base v xs)(ad:Addr)(c:Nat)(u:Value)(hx:a.eval x=.slice (some ad) 1 c)(hu:w.cell? ad=some u)(h1:u.oneCell'=true)(ha:ad.spot=none)(dW:xs.length<=1000000)(cS:base<=w.heap.size)(hk:∀v' w',Qu w' base v' (xs++[u])->Below base w w'->wpList P ops Q rest (a.put o.dst v') w'):wpList P ops Q (o::rest) a w:=by
 obtain⟨v',w',hr,h2,h3,_⟩:=OL (P:=P) w base t o.type e i z ht hi hz iN CM M3 v xs h ad c u hu h1 ha dW cS;refine wpList_plain AK fun _ hK=>?_;unfold Oper.wp execOp;simp only[ho,resolve,invoke,builtin,Sem.run_bind,Sem.run_pure,Result.andThen_ok,List.map_toArray,List.map_cons,List.map_nil,hs,hx,hr];exact hK _ _ (hk v' w' h2 h3)
end
section
def vf(l:List Rat):Fn:=fun i=>l.getD i 0
def F6(M:List (List Rat)):List Fn:=M.map vf
theorem fW{l:List Rat}(h:l[i]?=some x):vf l i=x:=by unfold vf;rw[dN,h];rfl
theorem a_{l:List Rat}(h:i<l.length):l[i]?=some (vf l i):=by unfold vf;rw[dN,iB h];rfl
theorem DT{M:List (List Rat)}{f:Fn}(h:(F6 M)[i]?=some f):∃a,M[i]?=some a/\f=vf a:=by
 unfold F6 at h;rw[iY] at h;obtain⟨a,ha,he⟩:=Option.map_eq_some_iff.1 h;exact⟨a,ha,he.symm⟩
theorem oG{M:List (List Rat)}(h:M[i]?=some a):(F6 M)[i]?=some (vf a):=by unfold F6;rw[iY,h];rfl
theorem xR(M:List (List Rat)):(F6 M).length=M.length:=by unfold F6;rw[jO]
theorem rT{M:List (List Rat)}{x:Fn}:Ker n (F6 M) x<->∀(i:Nat)(a:List Rat),M[i]?=some a->aP n (vf a) x=0:=by
 constructor
 ·intro h i a ha
  exact h _ (bV (oG ha))
 ·intro h f hf
  obtain⟨i,hi⟩:=List.mem_iff_getElem?.1 hf;obtain⟨a,ha,rfl⟩:=DT hi;exact h i a ha
def jK(d:Rat)(row:List Rat):List Rat:=row.map fun x=>x / d
def yU(f:Rat)(R row:List Rat):List Rat:=List.zipWith (fun x y=>x-f*y) row R
theorem lX(d:Rat)(row:List Rat):(jK d row).length=row.length:=by unfold jK;rw[jO]
theorem RI(h:R.length=row.length):(yU f R row).length=row.length:=by unfold yU;rw[List.length_zipWith,h,Nat.min_self]
theorem IF(h:i<row.length):vf (jK d row) i=vf row i / d:=by
 refine fW ?_;unfold jK;rw[iY,a_ h];rfl
theorem GW(h:i<row.length)(hl:R.length=row.length):vf (yU f R row) i=vf row i-f*vf R i:=by
 refine fW ?_;unfold yU;rw[List.getElem?_zipWith,a_ h,a_ (by rw[hl];exact h)]
def dG(M:List (List Rat))(r p k:Nat):List (List Rat):=(M.set p (M.getD r [])).set r (jK (vf (M.getD p []) k) (M.getD p []))
def eW(M:List (List Rat))(r p k:Nat):List (List Rat):=(dG M r p k).mapIdx fun i row=>if i=r then row else yU (vf row k) (jK (vf (M.getD p []) k) (M.getD p [])) row
theorem wT(M:List (List Rat))(r p k:Nat):(dG M r p k).length=M.length:=by unfold dG;rw[lS,lS]
theorem FX(M:List (List Rat))(r p k:Nat):(eW M r p k).length=M.length:=by unfold eW;rw[List.length_mapIdx,wT]
section
variable {M:List (List Rat)} {N r p k:Nat} {Rp Rr:List Rat}
theorem MM(hr:M[r]?=some Rr)(hp:M[p]?=some Rp):(dG M r p k)[r]?=some (jK (vf Rp k) Rp):=by
 unfold dG;rw[List.getElem?_set_self (by rw[lS];exact(dH.1 hr).1),dN,hp];rfl
theorem aED(hr:M[r]?=some Rr)(hp:M[p]?=some Rp)(hrp:r≠p):(dG M r p k)[p]?=some Rr:=by
 unfold dG;rw[List.getElem?_set_ne hrp,List.getElem?_set_self (dH.1 hp).1,dN,hr];rfl
theorem ON(h1:i≠r)(h2:i≠p):(dG M r p k)[i]?=M[i]?:=by
 unfold dG;rw[List.getElem?_set_ne (fun e=>h1 e.symm),List.getElem?_set_ne (fun e=>h2 e.symm)]
theorem BX(hr:M[r]?=some Rr)(hp:M[p]?=some Rp)(hi:i≠r)(h:(dG M r p k)[i]?=some a):∃s,M[s]?=some a/\s≠p/\(s=i\/(i=p/\s=r)):=by
 by_cases hip:i=p
 ·subst hip
  rw[aED hr hp (fun e=>hi e.symm)] at h;injection h with h;subst h;exact⟨r,hr,fun e=>hi e.symm,.inr ⟨rfl,rfl⟩⟩
 ·rw[ON hi hip] at h
  exact⟨i,h,hip,.inl rfl⟩
theorem J9{a':List Rat}(hp:M[p]?=some Rp)(h:(eW M r p k)[i]?=some a'):∃a,(dG M r p k)[i]?=some a/\a'=if i=r then a else yU (vf a k) (jK (vf Rp k) Rp) a:=by
 unfold eW at h;rw[List.getElem?_mapIdx] at h;obtain⟨a,ha,he⟩:=Option.map_eq_some_iff.1 h;refine⟨a,ha,?_⟩;rw[<-he];have:M.getD p []=Rp:=by rw[dN,hp];rfl
 rw[this]
theorem aAH(hp:M[p]?=some Rp)(h:(dG M r p k)[i]?=some a):(eW M r p k)[i]?=some (if i=r then a else yU (vf a k) (jK (vf Rp k) Rp) a):=by
 unfold eW;rw[List.getElem?_mapIdx,h];have:M.getD p []=Rp:=by rw[dN,hp];rfl
 rw[this];rfl
theorem ML(hw:∀a∈M,a.length=N)(hr:M[r]?=some Rr)(hp:M[p]?=some Rp):∀a∈dG M r p k,a.length=N:=by
 intro a ha;obtain⟨i,hi⟩:=List.mem_iff_getElem?.1 ha;by_cases zU:i=r
 ·subst zU
  rw[MM hr hp] at hi;injection hi with hi;subst hi;rw[lX];exact hw _ (bV hp)
 ·obtain⟨s,hs,_⟩:=BX hr hp zU hi
  exact hw _ (bV hs)
theorem NP(hw:∀a∈M,a.length=N)(hr:M[r]?=some Rr)(hp:M[p]?=some Rp):∀a∈eW M r p k,a.length=N:=by
 intro a ha;obtain⟨i,hi⟩:=List.mem_iff_getElem?.1 ha;obtain⟨b,hb,rfl⟩:=J9 hp hi;have h1:=ML (k:=k) hw hr hp b (bV hb);have h2:=hw _ (bV hp);split
 ·exact h1
 ·rw[RI (by rw[lX,h1,h2]),h1]
theorem TN(h:n<=row.length)(x:Fn):aP n (vf (jK d row)) x=(1 / d)*aP n (vf row) x:=by
 rw[<-NG];exact nZ (fun i hi=>by rw[IF (by omega)];grind) fun _ _=>rfl
theorem RJ(h:n<=row.length)(hl:R.length=row.length)(x:Fn):aP n (vf (yU f R row)) x=aP n (vf row) x+(-f)*aP n (vf R) x:=by
 rw[<-NG,<-aCz];exact nZ (fun i hi=>by rw[GW (by omega) hl];grind) fun _ _=>rfl
theorem aKg(hn:n<=N)(hw:∀a∈M,a.length=N)(hr:M[r]?=some Rr)(hp:M[p]?=some Rp)(hd:vf Rp k≠0)(x:Fn):Ker n (F6 (eW M r p k)) x<->Ker n (F6 M) x:=by
 have yI:=hw _ (bV hp);rw[rT,rT]
 constructor
 ·intro h
  have hR:aP n (vf (jK (vf Rp k) Rp)) x=0:=by
   have:=h r _ (aAH hp (MM hr hp));rwa[if_pos rfl] at this
  have hP:aP n (vf Rp) x=0:=by
   rw[TN (by omega)] at hR;generalize vf Rp k=d at *;grind
  intro i a ha;by_cases hip:i=p
  ·subst hip
   rw[hp] at ha;injection ha with ha;subst ha;exact hP
  ·have A_:=hw _ (bV ha)
   have key:∀s,s≠r->(dG M r p k)[s]?=some a->aP n (vf a) x=0:=fun s hs hsa=>by
    have:=h s _ (aAH hp hsa);rw[if_neg hs,RJ (by omega) (by rw[lX,yI,A_]),hR,Rat.mul_zero,Rat.add_zero] at this;exact this
   by_cases zU:i=r
   ·subst zU
    rw[hr] at ha;injection ha with ha;subst ha;exact key p (fun e=>hip e.symm) (aED hr hp hip)
   ·exact key i zU (by rw[ON zU hip];exact ha)
 ·intro h i a' PG
  have hR:aP n (vf (jK (vf Rp k) Rp)) x=0:=by rw[TN (by omega),h p Rp hp,Rat.mul_zero]
  obtain⟨a,ha,rfl⟩:=J9 hp PG;by_cases zU:i=r
  ·subst zU
   rw[if_pos rfl];rw[MM hr hp] at ha;injection ha with ha;subst ha;exact hR
  ·rw[if_neg zU]
   obtain⟨s,hs,_⟩:=BX hr hp zU ha;have A_:=hw _ (bV hs);rw[RJ (by omega) (by rw[lX,yI,A_]),h s a hs,hR,Rat.mul_zero,Rat.add_zero]
theorem aKh(E:K3 (F6 M) piv k)(hw:∀a∈M,a.length=N)(hk:k<N)(w_:r=piv.length)(hr:M[r]?=some Rr)(hp:M[p]?=some Rp)(hrp:r<=p)(hd:vf Rp k≠0):K3 (F6 (eW M r p k)) (piv++[k]) (k+1):=by
 have yI:=hw _ (bV hp);have hRz:∀j,j<k->vf (jK (vf Rp k) Rp) j=0:=fun j hj=>by
  rw[IF (by omega),E.rest p _ (oG hp) (by omega) j hj];exact Rat.div_def 0 _▸Rat.zero_mul _
 have hR1:vf (jK (vf Rp k) Rp) k=1:=by
  rw[IF (by omega)];generalize vf Rp k=d at *;grind
 have row:∀i a',(eW M r p k)[i]?=some a'->i≠r->∃s a,M[s]?=some a/\(s=i\/(i=p/\s=r))/\vf a' k=0/\∀j,j<k->vf a' j=vf a j:=fun i a' PG zU=>by
  obtain⟨a,ha,rfl⟩:=J9 hp PG;obtain⟨s,hs,_,h2⟩:=BX hr hp zU ha;have A_:=hw _ (bV hs);refine⟨s,a,hs,h2,?_,fun j hj=>?_⟩
  ·rw[if_neg zU,GW (by omega) (by rw[lX,yI,A_]),hR1];grind
  ·rw[if_neg zU,GW (by omega) (by rw[lX,yI,A_]),hRz j hj];grind
 have prow:∀a',(eW M r p k)[r]?=some a'->a'=jK (vf Rp k) Rp:=fun a' PG=>by
  obtain⟨a,ha,rfl⟩:=J9 hp PG;rw[if_pos rfl];rw[MM hr hp] at ha;injection ha with ha;exact ha.symm
 have pv:∀t q,(piv++[k])[t]?=some q->(t<piv.length/\piv[t]?=some q/\q<k)\/(t=r/\q=k):=fun t q h=>by
  rcases Nat.lt_or_ge t piv.length with aU | QU
  ·rw[BD aU] at h
   exact .inl ⟨aU,h,E.lt q (bV h)⟩
  ·rw[DN QU] at h
   have:t-piv.length=0:=by
    have:=(dH.1 h).1;simp at this;omega
   rw[this] at h;simp at h;exact .inr ⟨by omega,h.symm⟩
 have hrM:=(dH.1 hr).1;refine⟨?_,?_,?_,?_,?_,?_,?_⟩
 ·rw[xR,FX,jW,List.length_singleton];omega
 ·rw[List.pairwise_append]
  exact⟨E.inc,List.pairwise_singleton _ _,fun a ha b hb=>by rw[List.mem_singleton.1 hb];exact E.lt a ha⟩
 ·intro q hq
  rcases List.mem_append.1 hq with h | h
  ·have:=E.lt q h;omega
  ·rw[List.mem_singleton.1 h];omega
 ·intro t q f h1 h2
  obtain⟨a',PG,rfl⟩:=DT h2;rcases pv t q h1 with⟨aU,hq,hqk⟩ | ⟨rfl,rfl⟩
  ·obtain⟨s,a,hs,SV,_,hj⟩:=row t a' PG (by omega)
   rw[hj q hqk];rcases SV with rfl | ⟨e1,e2⟩
   ·exact E.one s q _ hq (oG hs)
   ·omega
  ·rw[prow a' PG];exact hR1
 ·intro t q i f h1 h2 hit
  obtain⟨a',PG,rfl⟩:=DT h2;rcases pv t q h1 with⟨aU,hq,hqk⟩ | ⟨rfl,rfl⟩
  ·by_cases zU:i=r
   ·subst zU
    rw[prow a' PG];exact hRz q hqk
   ·obtain⟨s,a,hs,SV,_,hj⟩:=row i a' PG zU
    rw[hj q hqk];refine E.zer t q s _ hq (oG hs) ?_;rcases SV with rfl | ⟨e1,e2⟩
    ·exact hit
    ·omega
  ·obtain⟨s,a,_,_,h0,_⟩:=row i a' PG hit
   exact h0
 ·intro t q f h1 h2 j hj
  obtain⟨a',PG,rfl⟩:=DT h2;rcases pv t q h1 with⟨aU,hq,hqk⟩ | ⟨rfl,rfl⟩
  ·obtain⟨s,a,hs,SV,_,hjj⟩:=row t a' PG (by omega)
   rw[hjj j (by omega)];rcases SV with rfl | ⟨e1,e2⟩
   ·exact E.low s q _ hq (oG hs) j hj
   ·omega
  ·rw[prow a' PG];exact hRz j hj
 ·intro i f h2 hi j hj
  obtain⟨a',PG,rfl⟩:=DT h2;rw[jW,List.length_singleton] at hi;obtain⟨s,a,hs,SV,h0,hjj⟩:=row i a' PG (by omega);by_cases hjk:j=k
  ·subst hjk;exact h0
  ·rw[hjj j (by omega)]
   refine E.rest s _ (oG hs) ?_ j (by omega);rcases SV with rfl | ⟨e1,e2⟩<;>omega
theorem aEh(E:K3 (F6 M) piv k)(h:∀i a,M[i]?=some a->piv.length<=i->vf a k=0):K3 (F6 M) piv (k+1):=
 ⟨E.le,E.inc,fun p hp=>Nat.lt_succ_of_lt (E.lt p hp),E.one,E.zer,E.low,fun i f hf hi j hj=>by
  obtain⟨a,ha,rfl⟩:=DT hf;by_cases hjk:j=k
  ·subst hjk;exact h i a ha hi
  ·exact E.rest i _ (oG ha) hi j (by omega)⟩
theorem aGr(E:K3 (F6 M) piv k)(h:piv.length=M.length)(hk:k<=n):K3 (F6 M) piv n:=
 ⟨E.le,E.inc,fun p hp=>jE (E.lt p hp) hk,E.one,E.zer,E.low,fun i f hf hi j hj=>by
  have:=(dH.1 hf).1;rw[xR] at this;omega⟩
theorem aBq(M:List (List Rat)):K3 (F6 M) [] 0:=
 ⟨Nat.zero_le _,List.Pairwise.nil,fun p hp=>(by cases hp),fun t p a h=>by simp at h,fun t p i a h=>by simp at h,fun t p a h=>by simp at h,fun i a h hi j hj=>by omega⟩
end
def oW(M:List (List Rat))(r k:Nat):Nat:=r+(M.drop r).findIdx fun row=>vf row k != 0
def oV:Nat->List (List Rat)->List Nat->Nat->List (List Rat)×List Nat
 | 0,M,piv,_=>(M,piv)
 | s+1,M,piv,k=>if piv.length<M.length then(if oW M piv.length k=M.length then oV s M piv (k+1) else oV s (eW M piv.length (oW M piv.length k) k) (piv++[k]) (k+1)) else(M,piv)
def nJ(M:List (List Rat))(cols:Nat):List (List Rat)×List Nat:=oV cols M [] 0
def aM3(M:List (List Rat)):Nat:=match M with | []=>0 | a::_=>a.length
def aRp(M:List (List Rat)):Nat:=(nJ M (aM3 M)).2.length
theorem G6{M:List (List Rat)}(h:r<=M.length):r<=oW M r k/\oW M r k<=M.length:=by
 unfold oW;have h1:(M.drop r).findIdx (fun row=>vf row k != 0)<=(M.drop r).length:=List.findIdx_le_length;rw[LC] at h1;omega
theorem aBO{M:List (List Rat)}(h:r<=M.length)(hp:oW M r k=M.length):∀(i:Nat)(a:List Rat),M[i]?=some a->r<=i->vf a k=0:=by
 intro i a hi hri;have aU:=(dH.1 hi).1;have h2:(M.drop r).findIdx (fun row=>vf row k != 0)=(M.drop r).length:=by unfold oW at hp;rw[LC];omega
 have h3:=List.findIdx_eq_length.1 h2 a (bV (i:=i-r) (by rw[List.getElem?_drop];rw[show r+(i-r)=i from by omega];exact hi));simpa using h3
theorem xY{M:List (List Rat)}(h:r<=M.length)(hp:oW M r k≠M.length):∃a,M[oW M r k]?=some a/\vf a k≠0:=by
 have h1:=G6 (k:=k) h;have h2:(M.drop r).findIdx (fun row=>vf row k != 0)<(M.drop r).length:=by
  have:(M.drop r).findIdx (fun row=>vf row k != 0)<=(M.drop r).length:=List.findIdx_le_length;rw[LC] at *;unfold oW at *;omega
 have h3:=List.findIdx_getElem (p:=fun row=>vf row k != 0) (xs:=M.drop r) (w:=h2);refine⟨_,iB (by omega),?_⟩;rw[List.getElem_drop] at h3;simpa[oW] using h3
theorem R4{M:List (List Rat)}(hi:M[i]?=some a)(h1:r<=i)(h2:i<oW M r k):vf a k=0:=by
 have h3:=List.not_of_lt_findIdx (p:=fun row=>vf row k != 0) (xs:=M.drop r) (i:=i-r) (by unfold oW at h2;omega);have aU:=(dH.1 hi).1;rw[List.getElem_drop] at h3;have:M[r+(i-r)]'(by omega)=a:=by
  have e:r+(i-r)=i:=by omega
  have:=(dH.1 hi).2;simp only[e];exact this
 rw[this] at h3;simpa using h3
theorem aI5{M:List (List Rat)}(hr:r<=p)(hp:M[p]?=some a)(ha:vf a k≠0)(hb:∀(i:Nat)(b:List Rat),M[i]?=some b->r<=i->i<p->vf b k=0):oW M r k=p:=by
 have aU:=(dH.1 hp).1;have h1:=G6 (M:=M) (r:=r) (k:=k) (by omega);rcases Nat.lt_trichotomy (oW M r k) p with h | h | h
 ·obtain⟨b,bC,bH⟩:=xY (M:=M) (r:=r) (k:=k) (by omega) (by omega)
  exact absurd (hb _ b bC h1.1 h) bH
 ·exact h
 ·exact absurd (R4 hp hr h) ha
theorem aEI{M:List (List Rat)}(hr:r<=M.length)(hb:∀(i:Nat)(b:List Rat),M[i]?=some b->r<=i->vf b k=0):oW M r k=M.length:=by
 refine Classical.byContradiction fun h=>?_;obtain⟨a,h1,h2⟩:=xY hr h;exact h2 (hb _ a h1 (G6 hr).1)
structure sB (M0 M:List (List Rat)) (N:Nat) (piv:List Nat) (k:Nat):Prop where
 ech:K3 (F6 M) piv k
 wid:∀a∈M,a.length=N
 ker:∀n,n<=N->∀x,Ker n (F6 M) x<->Ker n (F6 M0) x
 len:M.length=M0.length
theorem FK{M:List (List Rat)}(h:∀a∈M,a.length=N):sB M M N [] 0:=⟨aBq M,h,fun _ _ _=>Iff.rfl,rfl⟩
theorem sB.skip{M0 M:List (List Rat)}(h:sB M0 M N piv k)(hp:oW M piv.length k=M.length):sB M0 M N piv (k+1):=
 ⟨aEh h.ech (aBO (by have:=h.ech.le;rwa[xR] at this) hp),h.wid,h.ker,h.len⟩
theorem sB.step{M0 M:List (List Rat)}{N k:Nat}{piv:List Nat}(h:sB M0 M N piv k)(hk:k<N)(hl:piv.length<M.length)(hp:oW M piv.length k≠M.length):sB M0 (eW M piv.length (oW M piv.length k) k) N (piv++[k]) (k+1):=by
 obtain⟨Rp,hRp,hd⟩:=xY (pJ hl) hp;obtain⟨Rr,hRr⟩:∃Rr,M[piv.length]?=some Rr:=⟨_,iB hl⟩;have h1:=G6 (M:=M) (k:=k) (pJ hl);exact⟨aKh h.ech h.wid hk rfl hRr hRp h1.1 hd,NP h.wid hRr hRp,fun n hn x=>(aKg hn h.wid hRr hRp hd x).trans (h.ker n hn x),(FX ..).trans h.len⟩
theorem sB.full{M0 M:List (List Rat)}(h:sB M0 M N piv k)(hl:¬piv.length<M.length)(hk:k<=n):sB M0 M N piv n:=
 ⟨aGr h.ech (by have:=h.ech.le;rw[xR] at this;omega) hk,h.wid,h.ker,h.len⟩
theorem I8:∀(s:Nat) {M0 M:List (List Rat)} {N k:Nat} {piv:List Nat},sB M0 M N piv k->k+s<=N->sB M0 (oV s M piv k).1 N (oV s M piv k).2 (k+s)
 | 0,_,_,_,_,_,h,_=>h
 | s+1,M0,M,N,k,piv,h,hk=>by
  unfold oV;by_cases hl:piv.length<M.length
  ·rw[if_pos hl]
   by_cases hp:oW M piv.length k=M.length
   ·rw[if_pos hp]
    have:=I8 s (h.skip hp) (by omega);rwa[show k+1+s=k+(s+1) from by omega] at this
   ·rw[if_neg hp]
    have:=I8 s (h.step (by omega) hl hp) (by omega);rwa[show k+1+s=k+(s+1) from by omega] at this
  ·rw[if_neg hl]
   exact h.full hl (by omega)
theorem G4{M:List (List Rat)}{cols:Nat}(h:∀a∈M,a.length=N)(hc:cols<=N):sB M (nJ M cols).1 N (nJ M cols).2 cols:=by
 have:=I8 cols (FK h) (by omega);rwa[Nat.zero_add] at this
def Bd(B:Nat)(M:List (List Rat)):Prop:=∀a∈M,∀x∈a,bI x+1<=B
theorem Bd.mono{C:Nat}{M:List (List Rat)}(h:Bd B M)(hc:B<=C):Bd C M:=fun a ha x hx=>cO (h a ha x hx) hc
theorem Bd.at_{M:List (List Rat)}(h:Bd B M)(ha:M[i]?=some a)(hx:a[j]?=some x):bI x+1<=B:=h a (bV ha) x (bV hx)
theorem Bd.vf{M:List (List Rat)}(h:Bd B M)(ha:M[i]?=some a)(hj:j<a.length):bI (vf a j)+1<=B:=h.at_ ha (a_ hj)
section
variable {d f x:Rat} {R row:List Rat} {k i j:Nat}
def vU(d:Rat)(k j:Nat)(row:List Rat):List Rat:=row.mapIdx fun i x=>if k<=i/\i<j then x / d else x
def pL(f:Rat)(R:List Rat)(k j:Nat)(row:List Rat):List Rat:=row.mapIdx fun i x=>if k<=i/\i<j then x-f*vf R i else x
theorem TO:(vU d k j row).length=row.length:=by unfold vU;rw[List.length_mapIdx]
theorem RK:(pL f R k j row).length=row.length:=by unfold pL;rw[List.length_mapIdx]
theorem X2:vU d k k row=row:=by
 apply List.ext_getElem?;intro i;unfold vU;rw[List.getElem?_mapIdx];cases row[i]? with
 | none=>rfl
 | some x=>simp only[Option.map_some];rw[if_neg (by omega)]
theorem VK:pL f R k k row=row:=by
 apply List.ext_getElem?;intro i;unfold pL;rw[List.getElem?_mapIdx];cases row[i]? with
 | none=>rfl
 | some x=>simp only[Option.map_some];rw[if_neg (by omega)]
theorem aKf(h:row[j]?=some x):(vU d k j row)[j]?=some x:=by
 unfold vU;rw[List.getElem?_mapIdx,h];simp only[Option.map_some];rw[if_neg (by omega)]
theorem aIJ(h:row[j]?=some x):(pL f R k j row)[j]?=some x:=by
 unfold pL;rw[List.getElem?_mapIdx,h];simp only[Option.map_some];rw[if_neg (by omega)]
theorem aCA(hk:k<=j)(h:row[j]?=some x):(vU d k j row).set j (x / d)=vU d k (j+1) row:=by
 have hj:=(dH.1 h).1;apply List.ext_getElem?;intro i;rw[List.getElem?_set,TO];unfold vU;rw[List.getElem?_mapIdx,List.getElem?_mapIdx];by_cases hi:j=i
 ·subst hi
  rw[if_pos rfl,if_pos hj,h];simp only[Option.map_some];rw[if_pos ⟨hk,by omega⟩]
 ·rw[if_neg hi]
  cases row[i]? with
  | none=>rfl
  | some y=>
   simp only[Option.map_some];by_cases h2:k<=i/\i<j
   ·rw[if_pos h2,if_pos ⟨h2.1,by omega⟩]
   ·rw[if_neg h2,if_neg (by omega)]
theorem aBo(hk:k<=j)(h:row[j]?=some x):(pL f R k j row).set j (x-f*vf R j)=pL f R k (j+1) row:=by
 have hj:=(dH.1 h).1;apply List.ext_getElem?;intro i;rw[List.getElem?_set,RK];unfold pL;rw[List.getElem?_mapIdx,List.getElem?_mapIdx];by_cases hi:j=i
 ·subst hi
  rw[if_pos rfl,if_pos hj,h];simp only[Option.map_some];rw[if_pos ⟨hk,by omega⟩]
 ·rw[if_neg hi]
  cases row[i]? with
  | none=>rfl
  | some y=>
   simp only[Option.map_some];by_cases h2:k<=i/\i<j
   ·rw[if_pos h2,if_pos ⟨h2.1,by omega⟩]
   ·rw[if_neg h2,if_neg (by omega)]
theorem aBp(h:vf R j=0):pL f R k (j+1) row=pL f R k j row:=by
 apply List.ext_getElem?;intro i;unfold pL;rw[List.getElem?_mapIdx,List.getElem?_mapIdx];cases row[i]? with
 | none=>rfl
 | some y=>
  simp only[Option.map_some];by_cases h2:k<=i/\i<j
  ·rw[if_pos h2,if_pos ⟨h2.1,by omega⟩]
  ·rw[if_neg h2]
   by_cases h3:i=j
   ·subst h3
    by_cases h4:k<=i/\i<i+1
    ·rw[if_pos h4,h,Rat.mul_zero,Rat.sub_eq_add_neg,Rat.neg_zero,Rat.add_zero]
    ·rw[if_neg h4]
   ·rw[if_neg (by omega)]
theorem aGI(h:∀i,i<k->vf row i=0):vU d k row.length row=jK d row:=by
 apply List.ext_getElem?;intro i;unfold vU jK;rw[List.getElem?_mapIdx,iY];cases hx:row[i]? with
 | none=>rfl
 | some x=>
  have hi:=(dH.1 hx).1;simp only[Option.map_some];by_cases hk:k<=i
  ·rw[if_pos ⟨hk,hi⟩]
  ·rw[if_neg (by omega)]
   have:=h i (by omega);rw[fW hx] at this;rw[this,Rat.div_def,Rat.zero_mul]
theorem aD9(hl:R.length=row.length)(h:∀i,i<k->vf R i=0):pL f R k row.length row=yU f R row:=by
 apply List.ext_getElem?;intro i;unfold pL yU;rw[List.getElem?_mapIdx,List.getElem?_zipWith];cases hx:row[i]? with
 | none=>rfl
 | some x=>
  have hi:=(dH.1 hx).1;rw[a_ (l:=R) (by omega)];simp only[Option.map_some];by_cases hk:k<=i
  ·rw[if_pos ⟨hk,hi⟩]
  ·rw[if_neg (by omega),h i (by omega),Rat.mul_zero,Rat.sub_eq_add_neg,Rat.neg_zero,Rat.add_zero]
theorem aBn(hl:R.length=row.length):yU 0 R row=row:=by
 apply List.ext_getElem?;intro i;unfold yU;rw[List.getElem?_zipWith];cases hx:row[i]? with
 | none=>rfl
 | some x=>
  have hi:=(dH.1 hx).1;rw[a_ (l:=R) (by omega)];simp only;rw[Rat.zero_mul,Rat.sub_eq_add_neg,Rat.neg_zero,Rat.add_zero]
end
def gO(M:List (List Rat))(R:List Rat)(r k i:Nat):List (List Rat):=M.mapIdx fun t row=>if t<i/\t≠r then yU (vf row k) R row else row
section
variable {M:List (List Rat)} {R row:List Rat} {r p k i:Nat}
theorem D8:(gO M R r k i).length=M.length:=by unfold gO;rw[List.length_mapIdx]
theorem RV:gO M R r k 0=M:=by
 apply List.ext_getElem?;intro t;unfold gO;rw[List.getElem?_mapIdx];cases M[t]? with
 | none=>rfl
 | some x=>simp only[Option.map_some];rw[if_neg (by omega)]
theorem BQ(h:M[i]?=some row):(gO M R r k i)[i]?=some row:=by
 unfold gO;rw[List.getElem?_mapIdx,h];simp only[Option.map_some];rw[if_neg (by omega)]
theorem aIY(h:M[r]?=some row):(gO M R r k i)[r]?=some row:=by
 unfold gO;rw[List.getElem?_mapIdx,h];simp only[Option.map_some];rw[if_neg (by omega)]
theorem I6:gO M R r k (r+1)=gO M R r k r:=by
 apply List.ext_getElem?;intro t;unfold gO;rw[List.getElem?_mapIdx,List.getElem?_mapIdx];cases M[t]? with
 | none=>rfl
 | some x=>
  simp only[Option.map_some];by_cases h:t<r
  ·rw[if_pos ⟨by omega,by omega⟩,if_pos ⟨h,by omega⟩]
  ·rw[if_neg (by omega),if_neg (by omega)]
theorem I5(hi:i≠r)(h:M[i]?=some row):(gO M R r k i).set i (yU (vf row k) R row)=gO M R r k (i+1):=by
 have hl:=(dH.1 h).1;apply List.ext_getElem?;intro t;rw[List.getElem?_set,D8];unfold gO;rw[List.getElem?_mapIdx,List.getElem?_mapIdx];by_cases ht:i=t
 ·subst ht
  rw[if_pos rfl,if_pos hl,h];simp only[Option.map_some];rw[if_pos ⟨by omega,hi⟩]
 ·rw[if_neg ht]
  cases M[t]? with
  | none=>rfl
  | some x=>
   simp only[Option.map_some];by_cases h2:t<i/\t≠r
   ·rw[if_pos h2,if_pos ⟨by omega,h2.2⟩]
   ·rw[if_neg h2,if_neg (by omega)]
theorem VP(hl:R.length=row.length)(h:M[i]?=some row)(hz:vf row k=0):gO M R r k (i+1)=gO M R r k i:=by
 by_cases hi:i=r
 ·subst hi;exact I6
 ·rw[<-I5 hi h,hz,aBn hl]
  apply List.ext_getElem?;intro t;rw[List.getElem?_set];by_cases ht:i=t
  ·subst ht
   rw[if_pos rfl,if_pos (by rw[D8];exact(dH.1 h).1),BQ h]
  ·rw[if_neg ht]
theorem aBB(hp:M[p]?=some row):gO (dG M r p k) (jK (vf row k) row) r k M.length=eW M r p k:=by
 unfold gO eW;have e:M.getD p []=row:=by rw[dN,hp];rfl
 rw[e];apply List.ext_getElem?;intro t;rw[List.getElem?_mapIdx,List.getElem?_mapIdx];cases hx:(dG M r p k)[t]? with
 | none=>rfl
 | some x=>
  have ht:=(dH.1 hx).1;rw[wT] at ht;simp only[Option.map_some];by_cases h:t=r
  ·rw[if_neg (by omega),if_pos h]
  ·rw[if_pos ⟨ht,h⟩,if_neg h]
theorem aD6(hr:M[r]?=some a)(hp:M[p]?=some row):((M.set r row).set p a).set r (jK (vf row k) row)=dG M r p k:=by
 unfold dG;have e:M.getD p []=row:=by rw[dN,hp];rfl
 have e2:M.getD r []=a:=by rw[dN,hr];rfl
 rw[e,e2];by_cases h:r=p
 ·subst h;simp
 ·rw[List.set_comm _ _ (fun e=>h e.symm),List.set_set,List.set_comm _ _ h]
theorem aM8(hr:M[r]?=some a)(hp:M[p]?=some row):((M.set r row).set p a)[r]?=some row:=by
 have h1:=(dH.1 hr).1;rw[List.getElem?_set];by_cases h:p=r
 ·subst h
  rw[if_pos rfl,if_pos (by rw[lS];exact h1)];rw[hr] at hp;exact hp
 ·rw[if_neg h,List.getElem?_set,if_pos rfl,if_pos h1]
theorem RU{α:Type}{l:List α}{x:α}(h:l[i]?=some x):l.set i x=l:=by
 apply List.ext_getElem?;intro t;rw[List.getElem?_set];by_cases ht:i=t
 ·subst ht
  rw[if_pos rfl,if_pos (dH.1 h).1,h]
 ·rw[if_neg ht]
theorem aFd(h:x∈jK d row):∃y∈row,x=y / d:=by
 unfold jK at h;obtain⟨y,hy,e⟩:=List.mem_map.1 h;exact⟨y,hy,e.symm⟩
theorem aI4(hr:M[r]?=some a)(hp:M[p]?=some row)(hb:b∈dG M r p k):b∈M\/b=jK (vf row k) row:=by
 obtain⟨t,ht⟩:=List.mem_iff_getElem?.1 hb;by_cases h1:t=r
 ·subst h1
  rw[MM hr hp] at ht;injection ht with ht;exact .inr ht.symm
 ·by_cases h2:t=p
  ·subst h2
   rw[aED hr hp (fun e=>h1 e.symm)] at ht;injection ht with ht;exact .inl (ht▸bV hr)
  ·rw[ON h1 h2] at ht
   exact .inl (bV ht)
theorem aGH(h:Bd B M)(hp:M[p]?=some row)(hk:k<row.length):∀x∈jK (vf row k) row,bI x+2<=2*B:=fun x hx=>by
 obtain⟨y,hy,rfl⟩:=aFd hx;have h1:=h row (bV hp) y hy;have h2:=h.vf hp hk;have:=IE y (vf row k);omega
theorem aGW(h:Bd B M)(hw:∀a∈M,a.length=N)(hr:M[r]?=some a)(hp:M[p]?=some row)(hk:k<N):Bd (4*B) (eW M r p k):=by
 have yI:=hw row (bV hp);have hd:=aGH h hp (by rw[yI];exact hk);intro b hb x hx;obtain⟨t,ht⟩:=List.mem_iff_getElem?.1 hb;obtain⟨c,hc,rfl⟩:=J9 hp ht;have LQ:=aI4 hr hp (bV hc);by_cases h1:t=r
 ·rw[if_pos h1] at hx
  rcases LQ with h2 | rfl
  ·have:=h c h2 x hx;omega
  ·have:=hd x hx;omega
 ·rw[if_neg h1] at hx
  have hcM:c∈M:=by
   obtain⟨s,hs,_⟩:=BX hr hp h1 hc;exact bV hs
  have zC:=hw c hcM;obtain⟨j,hj⟩:=List.mem_iff_getElem?.1 hx;have oP:j<c.length:=by
   have:=(dH.1 hj).1;rwa[RI (by rw[lX,yI,zC])] at this
  have hv:=GW (f:=vf c k) (R:=jK (vf row k) row) (row:=c) oP (by rw[lX,yI,zC]);rw[fW hj] at hv;rw[hv];obtain⟨s,hs⟩:=List.mem_iff_getElem?.1 hcM;have b1:=h.vf hs oP;have b2:=h.vf hs (show k<c.length by omega);have b3:=hd _ (bV (a_ (l:=jK (vf row k) row) (show j<_ by rw[lX,yI];omega)));have b4:=eL (vf c k) (vf (jK (vf row k) row) j);have b5:=rM (vf c j) (vf c k*vf (jK (vf row k) row) j);omega
theorem R3(E:K3 (F6 M) piv k)(hp:M[p]?=some row)(hl:piv.length<=p):∀j,j<k->vf row j=0:=fun j hj=>E.rest p _ (oG hp) hl j hj
theorem aGF(h:vf row j=0)(hj:j<row.length):vf (jK d row) j=0:=by
 rw[IF hj,h,Rat.div_def,Rat.zero_mul]
theorem VT(h:piv.length<M.length)(hp:oW M piv.length k=M.length):oV (s+1) M piv k=oV s M piv (k+1):=by
 rw[oV,if_pos h,if_pos hp]
theorem VS(h:piv.length<M.length)(hp:oW M piv.length k=p)(bX:p≠M.length):oV (s+1) M piv k=oV s (eW M piv.length p k) (piv++[k]) (k+1):=by
 subst hp;rw[oV,if_pos h,if_neg bX]
theorem VU(h:¬piv.length<M.length):oV s M piv k=(M,piv):=by
 cases s with
 | zero=>rfl
 | succ s=>rw[oV,if_neg h]
end
theorem ZZ{cols:Nat}(h:k<=cols)(c:Nat):4^k*c<=4^cols*c:=Nat.mul_le_mul_right _ (Nat.pow_le_pow_right (by decide) h)
def qG(n i:Nat):List Rat:=(List.replicate n 0).set i 1
def iH(M:List (List Rat)):List (List Rat):=M.mapIdx fun i row=>row++qG M.length i
theorem iQ(M:List (List Rat)):(iH M).length=M.length:=by unfold iH;rw[List.length_mapIdx]
theorem yK{M:List (List Rat)}(h:M[i]?=some row):(iH M)[i]?=some (row++qG M.length i):=by
 unfold iH;rw[List.getElem?_mapIdx,h];rfl
theorem xG{M:List (List Rat)}(h:∀a∈M,a.length=M.length):∀a∈iH M,a.length=M.length+M.length:=fun a ha=>by
 obtain⟨i,hi⟩:=List.mem_iff_getElem?.1 ha;obtain⟨row,hr⟩:∃row,M[i]?=some row:=eA (by have:=(dH.1 hi).1;rwa[iQ] at this);rw[yK hr] at hi;injection hi with hi;rw[<-hi,jW,h row (bV hr)];unfold qG;rw[lS,rB]
def mV(M:List (List Rat)):List (List Rat):=(nJ (iH M) M.length).1.map (List.drop M.length)
def Reg(M:List (List Rat)):Prop:=¬(nJ (iH M) M.length).2.length<M.length
theorem mP(f:Fn)(n:Nat):∀m:Nat,aN (n+m) f=aN n f+aN m (fun j=>f (n+j))
 | 0=>by simp only[Nat.add_zero,aN];rw[Rat.add_zero]
 | m+1=>by
  rw[<-Nat.add_assoc];simp only[aN];rw[mP f n m,Rat.add_assoc]
theorem aFu:∀{l:List Nat}{k t p:Nat},l.Pairwise (·<·)->(∀x∈l,k<=x)->l[t]?=some p->k+t<=p
 | x::l,k,0,p,_,h,e=>by simp at e;subst e;exact h x (by simp)
 | x::l,k,t+1,p,hp,h,e=>by
  rw[List.pairwise_cons] at hp;have:=aFu (k:=k+1) hp.2 (fun y hy=>by have:=hp.1 y hy;have:=h x (by simp);omega) (by simpa using e);omega
 | [],_,_,_,_,_,e=>by simp at e
theorem XC:∀{l:List Nat}{n t p:Nat},l.Pairwise (·<·)->(∀x∈l,x<n)->l[t]?=some p->p+(l.length-t)<=n
 | [x],n,0,p,_,h,e=>by simp at e;subst e;have:=h x (by simp);simp;omega
 | x::y::l,n,0,p,hp,h,e=>by
  simp at e;subst e;rw[List.pairwise_cons] at hp;have h1:=XC (t:=0) hp.2 (fun z hz=>h z (by simp[hz])) rfl;have h2:=hp.1 y (by simp);simp only[GS] at h1 ⊢;omega
 | x::l,n,t+1,p,hp,h,e=>by
  rw[List.pairwise_cons] at hp;have:=XC (t:=t) hp.2 (fun z hz=>h z (by simp[hz])) (by simpa using e);simp only[GS];omega
 | [],_,_,_,_,_,e=>by simp at e
theorem Z_{l:List Nat}{t:Nat}(h1:l.Pairwise (·<·))(h2:∀x∈l,x<n)(h3:l.length=n)(h:l[t]?=some p):p=t:=by
 have a:=aFu (k:=0) h1 (fun _ _=>Nat.zero_le _) h;have b:=XC h1 h2 h;have c:=(dH.1 h).1;omega
section
variable {M:List (List Rat)}
theorem aDU(h:j<a.length):vf (a++b) j=vf a j:=by
 unfold vf;rw[dN,dN,BD h]
theorem ZH:vf (a++b) (a.length+j)=vf b j:=by
 unfold vf;rw[dN,dN,DN (by omega),Nat.add_sub_cancel_left]
theorem aIx:vf (a.drop n) j=vf a (n+j):=by
 unfold vf;rw[dN,dN,List.getElem?_drop]
theorem ZG(hj:j<n):vf (qG n i) j=if j=i then 1 else 0:=by
 unfold vf qG;rw[dN,List.getElem?_set];by_cases h:i=j
 ·subst h
  rw[if_pos rfl,if_pos (by rw[rB];exact hj),if_pos rfl];rfl
 ·rw[if_neg h,if_neg (fun e=>h e.symm),List.getElem?_replicate,if_pos hj]
  rfl
theorem aAw(hw:∀a∈M,a.length=M.length)(x:Fn):Ker M.length (F6 (iH M)) x<->Ker M.length (F6 M) x:=by
 rw[rT,rT];have key:∀(i:Nat)(a:List Rat),M[i]?=some a->aP M.length (vf (a++qG M.length i)) x=aP M.length (vf a) x:=fun i a hi=>
  nZ (fun j hj=>aDU (by rw[hw a (bV hi)];exact hj)) fun _ _=>rfl
 constructor
 ·intro h i a hi
  rw[<-key i a hi];exact h i _ (yK hi)
 ·intro h i a hi
  obtain⟨row,hr⟩:∃row,M[i]?=some row:=eA (by have:=(dH.1 hi).1;rwa[iQ] at this);rw[yK hr] at hi;injection hi with hi;rw[<-hi,key i row hr];exact h i row hr
theorem ZQ(hw:∀a∈M,a.length=M.length):Reg M<->∀x,Ker M.length (F6 M) x->∀j,j<M.length->x j=0:=by
 have R:=G4 (M:=iH M) (cols:=M.length) (xG hw) (Nat.le_add_right _ _);have FQ:=R.ech.le;rw[xR,R.len,iQ] at FQ;unfold Reg
 constructor
 ·intro h x hx
  exact(MK R.ech).1 (by omega) x ((R.ker M.length (Nat.le_add_right _ _) x).2 ((aAw hw x).2 hx))
 ·intro h
  have:=(MK R.ech).2 fun x hx=>h x ((aAw hw x).1 ((R.ker M.length (Nat.le_add_right _ _) x).1 hx));omega
theorem qS(hw:∀a∈M,a.length=M.length):(mV M).length=M.length/\∀a∈mV M,a.length=M.length:=by
 have R:=G4 (M:=iH M) (cols:=M.length) (xG hw) (Nat.le_add_right _ _);refine⟨by unfold mV;rw[jO,R.len,iQ],fun a ha=>?_⟩;unfold mV at ha;obtain⟨e,he,rfl⟩:=List.mem_map.1 ha;rw[LC,R.wid e he];omega
def nV(M:List (List Rat))(b:Fn):Fn:=fun t=>aP M.length (vf ((mV M).getD t [])) b
theorem O2(hw:∀a∈M,a.length=M.length)(hr:Reg M)(b:Fn)(hi:M[i]?=some a):aP M.length (vf a) (nV M b)=b i:=by
 have R:=G4 (M:=iH M) (cols:=M.length) (xG hw) (Nat.le_add_right _ _);have FQ:=R.ech.le;rw[xR,R.len,iQ] at FQ;have yI:(nJ (iH M) M.length).2.length=M.length:=by unfold Reg at hr;omega
 have K7:=(dH.1 hi).1;obtain⟨x,hx⟩:∃x:Fn,x=fun j=>if j<M.length then nV M b j else -(b (j-M.length)):=⟨_,rfl⟩;have CH:∀j,j<M.length->x j=nV M b j:=fun j hj=>by rw[hx];simp only;rw[if_pos hj]
 have y9:∀j,x (M.length+j)=-(b j):=fun j=>by rw[hx];simp only;rw[if_neg (by omega),Nat.add_sub_cancel_left]
 have hk:Ker (M.length+M.length) (F6 (nJ (iH M) M.length).1) x:=by
  rw[rT];intro t e ht;have LM:=(dH.1 ht).1;rw[R.len,iQ] at LM;obtain⟨p,hp⟩:∃p,(nJ (iH M) M.length).2[t]?=some p:=eA (by omega);have hpt:=Z_ R.ech.inc R.ech.lt yI hp;subst hpt;have zA:=R.ech.one p p (vf e) hp (oG ht);have aW4:∀j,j<M.length->j≠p->vf e j=0:=fun j hj bX=>by
   obtain⟨q,hq⟩:∃q,(nJ (iH M) M.length).2[j]?=some q:=eA (by omega);have:=Z_ R.ech.inc R.ech.lt yI hq;subst this;exact R.ech.zer q q p (vf e) hq (oG ht) (fun h=>bX h.symm)
  unfold aP;rw[mP];have h1:aN M.length (fun j=>vf e j*x j)=nV M b p:=by
   rw[dQ LM (fun j hj bX=>by rw[aW4 j hj bX,Rat.zero_mul]),zA,Rat.one_mul,CH p LM]
  have h2:aN M.length (fun j=>vf e (M.length+j)*x (M.length+j))=-(nV M b p):=by
   have h3:(mV M).getD p []=e.drop M.length:=by
    unfold mV;rw[dN,iY,ht];rfl
   unfold nV aP;rw[h3,show ∀z:Rat,-z=(-1)*z from fun z=>by grind,<-bL];refine aL fun j hj=>?_;rw[y9,aIx];grind
  rw[h1,h2];grind
 have rV:=(R.ker _ lR x).1 hk;rw[rT] at rV;have h0:=rV i _ (yK hi);unfold aP at h0;rw[mP] at h0;have A_:=hw a (bV hi);have h1:aN M.length (fun j=>vf (a++qG M.length i) j*x j)=aP M.length (vf a) (nV M b):=
  aL fun j hj=>by rw[aDU (by omega),CH j hj]
 have h2:aN M.length (fun j=>vf (a++qG M.length i) (M.length+j)*x (M.length+j))=-(b i):=by
  rw[dQ K7 (fun j hj bX=>by
   have:=ZH (a:=a) (b:=qG M.length i) (j:=j);rw[A_] at this;rw[this,ZG hj,if_neg bX,Rat.zero_mul])]
  have:=ZH (a:=a) (b:=qG M.length i) (j:=i);rw[A_] at this;rw[this,ZG K7,if_pos rfl,Rat.one_mul,y9]
 rw[h1,h2] at h0;grind
end
def GJ(p:Nat->Bool)(b:Nat):Nat:=((List.range b).filter p).length
theorem TY(p:Nat->Bool)(b:Nat):GJ p (b+1)=GJ p b+if p b then 1 else 0:=by
 unfold GJ;rw[List.range_succ,List.filter_append,jW];congr 1
 cases h:p b<;>simp[h]
def lM(p:Nat->Bool)(n:Nat):List Nat:=(List.range n).filter p
theorem s_(p:Nat->Bool)(n:Nat):(lM p n).length=GJ p n:=rfl
def ext(p:Nat->Bool)(x:Fn)(b:Nat):Rat:=if p b then x (GJ p b) else 0
theorem aBb{l m:List Rat}(h:i<l.length):vf (l++m) i=vf l i:=by
 unfold vf;rw[dN,dN,BD h]
theorem aBc(l:List Rat)(y:Rat):vf (l++[y]) l.length=y:=fW (by simp)
theorem R5(p:Nat->Bool)(c:Nat->Rat)(x:Fn):∀n:Nat,aP (GJ p n) (vf ((lM p n).map c)) x=aN n fun b=>c b*ext p x b
 | 0=>rfl
 | n+1=>by
  have ih:=R5 p c x n;rw[aN,<-ih];have hl:((lM p n).map c).length=GJ p n:=by rw[jO,s_]
  cases hp:p n with
  | false=>
   have e1:GJ p (n+1)=GJ p n:=by rw[TY,hp];rfl
   have e2:lM p (n+1)=lM p n:=by unfold lM;rw[List.range_succ,List.filter_append];simp[hp]
   rw[e1,e2];unfold ext;rw[hp];simp only[Bool.false_eq_true,if_false];rw[Rat.mul_zero,Rat.add_zero]
  | true=>
   have e1:GJ p (n+1)=GJ p n+1:=by rw[TY,hp];rfl
   have e2:lM p (n+1)=lM p n++[n]:=by unfold lM;rw[List.range_succ,List.filter_append];simp[hp]
   rw[e1,e2,List.map_append,List.map_singleton];unfold aP;rw[aN];have e3:vf ((lM p n).map c++[c n]) (GJ p n)=c n:=by rw[<-hl];exact aBc _ _
   rw[e3];congr 1
   ·refine aL fun i hi=>?_
    rw[aBb (by rw[hl];exact hi)]
   ·unfold ext
    rw[hp];simp
def two(a b:Nat)(k:Nat):Rat:=(if k=a then 1 else 0)-(if k=b then 1 else 0)
def CV(S:Nat->Nat->Bool):Nat->List Nat×Nat
 | 0=>([],0)
 | b+1=>match (List.range b).find? (fun a=>S a b) with
  | some a=>((CV S b).1++[(CV S b).1.getD a 0],(CV S b).2)
  | none=>((CV S b).1++[(CV S b).2],(CV S b).2+1)
theorem KE(S:Nat->Nat->Bool)(b:Nat):CV S (b+1)=match (List.range b).find? (fun a=>S a b) with
    | some a=>((CV S b).1++[(CV S b).1.getD a 0],(CV S b).2)
    | none=>((CV S b).1++[(CV S b).2],(CV S b).2+1):=rfl
def aJg(S:Nat->Nat->Bool)(b:Nat):Bool:=!(List.range b).any fun a=>S a b
theorem IH(S:Nat->Nat->Bool):∀n:Nat,(CV S n).1.length=n
 | 0=>rfl
 | n+1=>by
  have:=IH S n;rw[KE];split<;>simp[this]
def OI(l:List Nat)(a b:Nat):Bool:=l.getD a 0 == l.getD b 0
def dX(l:List Nat)(b:Nat):Bool:=!aJg (OI l) b
end
section
open Go
def JM(md:Region.Mode)(L:List Oper)(n:Nat)(ex:List Nat):Bool:=
 decide (L.length=n+1) &&
 (List.range (n+1)).all (fun j=>match L[j]? with
  | some o=>o.after.all (fun e=>!Region.binds md e || decide (e.on<j)) && (match o.guard with | none=>true | some (g,_)=>decide (g<n))
  | none=>false) &&
 (List.range n).all (fun j=>ex.contains j || (List.range (n+1)).any fun k=>decide (j<k) && match L[k]? with
  | some o=>o.after.any (fun e=>Region.binds md e && e.on == j)
  | none=>false)
section
variable {P:Program} {Q:Exit->Act->World->Prop} {md:Region.Mode}
theorem AI(h:JM md L n ex=true):L.length=n+1/\
    (∀j o,L[j]?=some o->(∀e∈o.after,Region.binds md e=true->e.on<j)/\∀g b,o.guard=some (g,b)->g<n)/\
    (∀j,j<n->j∈ex\/∃k o e,j<k/\L[k]?=some o/\e∈o.after/\Region.binds md e=true/\e.on=j):=by
 unfold JM at h;simp only[Bool.and_eq_true,decide_eq_true_eq,List.all_eq_true,List.mem_range,List.any_eq_true,Bool.or_eq_true,List.contains_iff_mem] at h;obtain⟨⟨h1,h2⟩,h3⟩:=h;refine⟨h1,fun j o ho=>?_,fun j hj=>?_⟩
 ·have hj:j<n+1:=by rw[<-h1];exact(dH.1 ho).1
  have:=h2 j hj;rw[ho] at this;simp only[Bool.and_eq_true,Array.all_eq_true_iff_forall_mem,Bool.or_eq_true,Bool.not_eq_true',decide_eq_true_eq] at this;refine⟨fun e he hb=>(this.1 e he).resolve_left (by simp[hb]),fun g b hg=>?_⟩;have h4:=this.2;rw[hg] at h4;simpa using h4
 ·rcases h3 j hj with h3 | ⟨k,hk,hjk,h4⟩
  ·exact .inl h3
  refine .inr ?_;cases ho:L[k]? with
  | none=>rw[ho] at h4;cases h4
  | some o=>
   rw[ho] at h4;simp only[Array.any_eq_true'] at h4;obtain⟨e,he,h5⟩:=h4;simp only[Bool.and_eq_true,beq_iff_eq] at h5;exact⟨k,o,e,hjk,ho,he,h5.1,h5.2⟩
theorem T8{L:List Oper}{n:Nat}{ex:List Nat}{oN:Oper}{listed:Array Bool}(hs:JM md L n ex=true)(hx:∀j∈ex,listed.getD j false=true)(hN:L[n]?=some oN)(iV:listed.size=n)(hc:nF md (L.take n) listed)(hr:∀e∈oN.after,Region.binds md e=true->(listed.push false).getD e.on false=true):∀d j,j+d=n->0<d->listed.getD j false=true:=by
 obtain⟨h1,h2,h3⟩:=AI hs;intro d
 induction d using Nat.strongRecOn with
 | _ d ih=>
  intro j hj hd;rcases h3 j (by omega) with h3 | ⟨k,o,e,hjk,hk,he,hb,hej⟩
  ·exact hx j h3
  have hkl:k<n+1:=by rw[<-h1];exact(dH.1 hk).1
  by_cases rJ:k=n
  ·subst rJ
   rw[hN] at hk;injection hk with hk;subst hk;have:=hr e he hb;rw[hej] at this;rwa[Array.getD_eq_getD_getElem?,Array.getElem?_push_lt (by omega),<-Array.getElem?_eq_getElem (by omega),<-Array.getD_eq_getD_getElem?] at this
  ·have hl:=ih (n-k) (by omega) k (by omega) (by omega)
   have:=hc k o (by rw[List.getElem?_take_of_lt (by omega)];exact hk) hl e he hb;rwa[hej] at this
theorem BS{listed:Array Bool}(hs:JM md L n ex=true)(iV:listed.size=n)(hi:i<n):i∈Region.ready md L.toArray (listed.push false)<->i∈Region.ready md (L.take n).toArray listed:=by
 obtain⟨h1,h2,h3⟩:=AI hs;rw[mem_ready,mem_ready,List.getElem?_toArray,List.getElem?_toArray,List.getElem?_take_of_lt hi,iP (by omega)];refine and_congr Iff.rfl ⟨?_,?_⟩
 ·rintro⟨o,ho,h⟩
  exact⟨o,ho,fun e he hb=>by rw[<-iP (by have:=(h2 i o ho).1 e he hb;omega)];exact h e he hb⟩
 ·rintro⟨o,ho,h⟩
  exact⟨o,ho,fun e he hb=>by rw[iP (by have:=(h2 i o ho).1 e he hb;omega)];exact h e he hb⟩
theorem FF{oN:Oper}(hs:JM md L n ex=true)(hN:L[n]?=some oN):∀(fuel:Nat)(listed:Array Bool)(a:Act)(w:Wo),listed.size=n->nF md (L.take n) listed->(∀j∈ex,listed.getD j false=true)->
    wpAny P md (L.take n).toArray (lK P L.toArray oN Q) fuel listed a w->wpAny P md L.toArray Q (fuel+1) (listed.push false) a w:=by
 obtain⟨h1,h2,h3⟩:=AI hs;have key:∀(fuel:Nat)(listed:Array Bool)(a:Act)(w:Wo),listed.size=n->nF md (L.take n) listed->Region.ready md (L.take n).toArray listed=[]->lK P L.toArray oN Q .normal a w->wpAny P md L.toArray Q (fuel+1) (listed.push false) a w:=by
  intro fuel listed a w iV hc hr hq;have EO:∀m j,j<m->j<n->listed.getD j false=true:=by
   intro m
   induction m with
   | zero=>intro j hj;omega
   | succ m ih=>
    intro j hj rE;cases hl:listed.getD j false with
    | true=>rfl
    | false=>
     exfalso;have oP:j<L.length:=by omega
     have XK:j∈Region.ready md (L.take n).toArray listed:=by
      rw[mem_ready,List.getElem?_toArray,List.getElem?_take_of_lt rE,pR (by omega),hl];refine⟨rfl,L[j],iB oP,fun e he hb=>ih _ ?_ ?_⟩
      ·have:=(h2 j _ (iB oP)).1 e he hb;omega
      ·have:=(h2 j _ (iB oP)).1 e he hb;omega
     rw[hr] at XK;cases XK
  have JW:=fun j hj=>EO n j hj hj;have hnr:n∈Region.ready md L.toArray (listed.push false):=by
   rw[mem_ready,List.getElem?_toArray];refine⟨by simp[<-iV],oN,hN,fun e he hb=>?_⟩;have:=(h2 n oN hN).1 e he hb;rw[iP (by omega)];exact JW _ this
  refine⟨fun h0=>by rw[h0] at hnr;exact absurd hnr (by simp),fun j hj=>?_⟩;have rE:j=n:=by
   obtain⟨h0,o,ho,_⟩:=mem_ready.1 hj;rw[List.getElem?_toArray] at ho;have oP:=(dH.1 ho).1;refine Decidable.byContradiction fun bX=>?_;rw[iP (by omega),pR (by omega),JW j (by omega)] at h0;cases h0
  subst rE;unfold wpOp;rw[List.getElem?_toArray,hN];simp only;have hd:=FV (md:=md) h1 iV JW;unfold lK at hq;dsimp only at hq;split
  ·rename_i hw
   rw[if_pos hw] at hq;exact .inl (Oper.wp_mono (fun a' w' h=>wpAny_done hd h fuel) hq)
  ·rename_i hw
   rw[if_neg hw] at hq;exact wpAny_done hd hq fuel
 intro fuel
 induction fuel with
 | zero=>intro listed a w iV hc hx h;exact key 0 listed a w iV hc h.1 h.2
 | succ fuel ih=>
  intro listed a w iV hc hx h;by_cases hr:Region.ready md (L.take n).toArray listed=[]
  ·exact key (fuel+1) listed a w iV hc hr (h.1 hr)
  ·have G_:n∉Region.ready md L.toArray (listed.push false):=by
    intro hn;obtain⟨_,o,ho,EO⟩:=mem_ready.1 hn;rw[List.getElem?_toArray,hN] at ho;injection ho with ho;subst ho;have hl:=T8 hs hx hN iV hc EO;apply hr;rw[List.eq_nil_iff_forall_not_mem];intro j hj;obtain⟨h0,o,ho,_⟩:=mem_ready.1 hj;rw[List.getElem?_toArray] at ho;have oP:=(dH.1 ho).1;have rE:j<n:=by simp at oP;omega
    have:=hl (n-j) j (by omega) (by omega);rw[pR (by omega),this] at h0;cases h0
   have aU:∀j,j∈Region.ready md L.toArray (listed.push false)->j<n:=fun j hj=>by
    obtain⟨_,o,ho,_⟩:=mem_ready.1 hj;rw[List.getElem?_toArray] at ho;have:=(dH.1 ho).1;have bX:j≠n:=fun e=>G_ (e▸hj);omega
   refine⟨fun h0=>?_,fun j hj=>?_⟩
   ·exfalso
    obtain⟨j,hj⟩:=List.exists_mem_of_ne_nil _ hr;have rE:j<n:=by
     obtain⟨_,o,ho,_⟩:=mem_ready.1 hj;rw[List.getElem?_toArray] at ho;have:=(dH.1 ho).1;simp at this;omega
    have:=(BS hs iV rE).2 hj;rw[h0] at this;cases this
   ·have rE:=aU j hj
    have hjr:=(BS hs iV rE).1 hj;refine IO (L:=L) (F:=L.take n) (by rw[List.getElem?_take_of_lt rE]) (fun o ho g b hg=>?_) (fun a' w' hh=>?_) (h.2 j hjr)
    ·rw[List.getElem?_take_of_lt rE] at ho
     rw[List.getElem?_take_of_lt ((h2 j o ho).2 g b hg)]
    ·rw[m7 (by omega)]
     exact ih _ a' w' (by simpa using iV) (J_ hc hjr) (fun y hy=>getD_set_true (hx y hy)) hh
theorem DQ{S:World->Prop}{id:Nat}{a:Act}{w:Wo}{L:List Oper}(m p:Nat)(op oK oM oN:Oper)(v:Value)(hm:P.follows .mixedOrders=true)(hs:rS .any L (m+3)=true)(wY:rS .any (L.take (m+3)) (m+2)=true)(hs3:JM .any (L.take (m+2)) (m+1) [p]=true)(hp:L[p]?=some op)(hpm:p<m+1)(hpa:op.after.all (fun e=>!Region.binds .any e)=true)(hK:L[m+1]?=some oK)(hM:L[m+2]?=some oM)(hN:L[m+3]?=some oN)(hP:BG .any L.toArray (Array.replicate (m+4) false) p=true)(hQ:∀c a w,Q (.panic c) (a.put op.dst v) w->Q (.panic c) a w)(hw:Region.wanted op (yielded L.toArray a.tmps)=true)(hy:∀w,(execOp a.eval op).run P w=.ok (.value v) w)(hS:S w.drew)(h:S w.drew->wpAnyH P .any (L.take (m+1)).toArray (lK P (L.take (m+2)).toArray oK (lK P (L.take (m+3)).toArray oM (lK P L.toArray oN Q))) S m ((Array.replicate (m+1) false).setIfInBounds p true) (a.put op.dst v) w.drew):(Code.region id L.toArray true).wp P Q a w:=by
 obtain⟨h1,h2,h3⟩:=mH hs;have oY:(L.take (m+3)).take (m+2)=L.take (m+2):=by rw[List.take_take,Nat.min_eq_left (by omega)]
 have sG:(L.take (m+2)).take (m+1)=L.take (m+1):=by rw[List.take_take,Nat.min_eq_left (by omega)]
 refine wp_region_any hm ?_;rw[show L.toArray.size=m+3+1 from by simpa using h1];unfold BG at hP;rw[Bool.and_eq_true,Bool.and_eq_true] at hP;refine wpAny_take (by rw[List.getElem?_toArray];exact hp) hP.1.1 hP.1.2 hP.2 hQ (.inl ⟨hw,hy⟩) ?_;have zC:∀(F:List Oper)(k:Nat),F[p]?=some op\/F[p]?=none->nF .any F ((Array.replicate k false).setIfInBounds p true):=fun F k hF j o ho hj e he hb=>by
  by_cases hpj:p=j
  ·subst hpj
   rcases hF with hF | hF
   ·rw[hF] at ho;injection ho with ho;subst ho
    have:=Array.all_eq_true_iff_forall_mem.1 hpa e he;rw[hb] at this;cases this
   ·rw[hF] at ho;cases ho
  ·rw[getD_set_ne false hpj] at hj
   exact absurd hj (by rcases Nat.lt_or_ge j k with h' | h'<;>simp[h'])
 have htk:∀k,(L.take k)[p]?=some op\/(L.take k)[p]?=none:=fun k=>by
  rw[List.getElem?_take];split
  ·exact .inl hp
  ·exact .inr rfl
 rw[Array.replicate_succ,m7 (by simp;omega)];refine kD hs hN (m+2) _ _ _ (by simp) (zC _ _ (htk _)) ?_;rw[Array.replicate_succ,m7 (by simp;omega)];refine kD wY (by rw[List.getElem?_take_of_lt (by omega)];exact hM) (m+1) _ _ _ (by simp) (zC _ _ (by rw[oY];exact htk _)) ?_;rw[oY,Array.replicate_succ,m7 (by simp;omega)];refine FF hs3 (by rw[List.getElem?_take_of_lt (by omega)];exact hK) m _ _ _ (by simp) (zC _ _ (by rw[sG];exact htk _)) (fun j hj=>by rw[List.mem_singleton.1 hj];simp;omega) ?_;rw[sG];exact wpAny_of_held _ _ _ _ (h hS)
end
end
