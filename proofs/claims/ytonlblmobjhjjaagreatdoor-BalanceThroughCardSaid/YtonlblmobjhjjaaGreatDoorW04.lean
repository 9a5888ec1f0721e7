import Derived.Test.YtonlblmobjhjjaaGreatDoorW01
import Derived.Test.YtonlblmobjhjjaaGreatDoorW02
import Derived.Lib.AppendStr
import Derived.Lib.ItoaMem
import Derived.Lib.AppendIntMem
import Derived.Deep.AppendSrc
import Derived.Deep.Upon
import Derived.Deep.DeepAppendWide
import Derived.Lib.Mul64
import Derived.Laws.Bits64b
import Derived.Laws.CopyOwn
import Derived.Deep.OwnRows
import Derived.Deep.RegionLaw
import Derived.StillTailTactics
import Derived.Deep.LoopGhost
set_option linter.unusedVariables false
set_option linter.unusedSimpArgs false
namespace Go.Proofs.YtonlblmobjhjjaaGreatDoor
set_option maxHeartbeats 8000000
set_option maxRecDepth 100000
variable {A : OA} {B N base c e g i j k n p r s size u : Nat} {M0 : List (List Rat)} {R a b row : List Rat} {d f x : Rat} {m : Int} {out : List Int} {piv : List Nat} {v : Value} {w w' : World} {xs : List Value}
section
open Go.ChangeShapes Go.WideShapes Go.ChangeAt Go.RowKit
attribute [local go_sem ↓] aE
attribute [local go_sem] aJ aI aL
theorem IK:(Tryz.prog.info? 182).map (·.size)=some 2:=by kernel_rfl
theorem WL:liesAt Tryz.prog Tryz.prog.depth 182 (2 / Tryz.prog.cellsOf 182) 0 182 1=true:=by kernel_rfl
theorem RP:(Tryz.prog.info? 5).map (fun i=>(i.zero,i.size,i.bytes))=some (some (.int .u8 0),1,1):=by kernel_rfl
theorem SM(b:Nat)(w:Wo)(h0:w.cell? ⟨b,0,none⟩=some (.pointer (some ⟨b,0,none⟩))):Calls Tryz.prog 138 #[.pointer (some ⟨b,0,none⟩)] w fun e w'=>e=.returned (.tuple #[])/\w'=w:=by
 obtain⟨j,hj,_⟩:=Option.map_eq_some_iff.1 IK;go_enter Tryz.func138,Tryz.ntmps138
 go_wp2
 rw[Lib.run_neq_ptr_same w _ Tryz.underlying179 hj]
 go_wp2
 go_end0
 exact⟨rfl,rfl⟩
theorem NK(b:Nat)(w:Wo)(h0:w.cell? ⟨b,0,none⟩=some (.pointer none))(hsh:w.shape? b=some (182,2))(hfz:w.frozen? ⟨b,0,none⟩=false):Calls Tryz.prog 138 #[.pointer (some ⟨b,0,none⟩)] w fun e w'=>e=.returned (.tuple #[])/\w'=w.setCell ⟨b,0,none⟩ (.pointer (some ⟨b,0,none⟩)):=by
 obtain⟨j,hj,hjs⟩:=Option.map_eq_some_iff.1 IK;go_enter Tryz.func138,Tryz.ntmps138
 go_wp2
 rw[Lib.run_to_unsafe w ⟨b,0,none⟩ Tryz.underlying179 Tryz.underlying244 hj (by rw[hjs];decide) hsh (Nat.zero_lt_succ 1)];simp only[Result.andThen];rw[Oper.upon_value]
 go_wp2
 rw[run_callFunc_extern Tryz.func154 (by kernel_rfl) (by kernel_rfl) (by kernel_rfl) (e:=Extern.AbiNoEscape.same) (by kernel_rfl)];rw[Lib.run_noEscape];simp only[Result.andThen];rw[Oper.upon_value]
 go_wp2
 rw[Lib.run_from_unsafe w ⟨b,0,none⟩ Tryz.underlying244 Tryz.underlying179 hj hsh WL];simp only[Result.andThen];rw[Oper.upon_value]
 go_wp2
 go_end0
 exact⟨rfl,rfl⟩
theorem Y5(B b:Nat)(bs:List Value)(w:Wo)(h:Lib.IsBuilder 182 5 B b bs w):Calls Tryz.prog 138 #[.pointer (some ⟨b,0,none⟩)] w fun e w'=>e=.returned (.tuple #[])/\(Lib.BuilderAt 182 5 B b (.pointer (some ⟨b,0,none⟩)) bs w'/\Below B w w'):=by
 rcases h with h | h
 ·refine(NK b w h.cell0 h.shape h.frozen0).mono ?_
  rintro e w' ⟨rfl,rfl⟩;exact⟨rfl,h.used _,(Below.refl B w).setCell (p:=⟨b,0,none⟩) h.1 _⟩
 ·refine(SM b w h.cell0).mono ?_
  rintro e w' ⟨rfl,rfl⟩;exact⟨rfl,h,Below.refl B _⟩
theorem vW(B b:Nat)(bs:List Value)(s:ByteArray)(w:Wo)(h:Lib.IsBuilder 182 5 B b bs w)(d5:bs.length+s.size<=140737488355328)(hBw:B<=w.heap.size):Calls Tryz.prog 107 #[.pointer (some ⟨b,0,none⟩),.string s] w fun e w'=>(∃v,e=.returned v)/\Lib.BuilderAt 182 5 B b (.pointer (some ⟨b,0,none⟩)) (bs++Lib.strCells s) w'/\Below B w w':=by
 obtain⟨i0,hi,pF,kT,kS⟩:=info_parts RP;have H:=lH h;clear h;go_enter Tryz.func107,Tryz.ntmps107
 go_wp2_with fail
 refine(Y5 B b bs w H.o).mono ?_;rintro e w1 ⟨rfl,h1,bG⟩;obtain⟨hB,v,xA,bB,cK⟩:=h1;have c0:w1.cell? ⟨b,0,none⟩=some (.pointer (some ⟨b,0,none⟩)):=by rw[Lib.cell_of_heap xA];rfl
 have c1:w1.cell? ⟨b,1,none⟩=some v:=by rw[Lib.cell_of_heap xA];rfl
 go_wp2_with (at_builtin;refine Lib.wpList_append_own_string _ rfl _ _ 180 9 rfl B 5 i0 Tryz.underlying180 Tryz.underlying9 hi pF kT kS _ _ _ rfl bB s rfl ?c3 ?c4 ?c5 ?_)
 case c3=>unfold maxLen;omega
 case c4=>omega
 case c5=>have:=bG.size;omega
 intro v' w2 hown' hgrow _;have aR:b<w1.heap.size:=by
  rcases Nat.lt_or_ge b w1.heap.size with h' | h'
  ·exact h'
  ·simp[Array.getElem?_eq_none h'] at xA
 have bV:w2.heap[b]?=some (.cells #[.pointer (some ⟨b,0,none⟩),v] 182 (0,0)):=by
  rw[hgrow.block b aR (fun e=>cK e.symm)];exact xA
 have d0:w2.cell? ⟨b,0,none⟩=some (.pointer (some ⟨b,0,none⟩)):=by rw[Lib.cell_of_heap bV];rfl
 have d1:w2.cell? ⟨b,1,none⟩=some v:=by rw[Lib.cell_of_heap bV];rfl
 have f1:w2.frozen? ⟨b,1,none⟩=false:=Lib.frozen_of_heap bV 1;obtain⟨ao,n',cap,rfl⟩:∃ao n' cap,v'=.slice ao n' cap:=by
  rcases hown'.2 with⟨hv,_⟩ | ⟨g,cap,cur,hv,_⟩
  ·exact⟨_,_,_,hv⟩
  ·exact⟨_,_,_,hv⟩
 go_wp2
 go_ret2;refine⟨⟨_,rfl⟩,?_,?_⟩
 ·exact Lib.BuilderAt.put (T:=182) (e:=5) hB bV (bs':=bs++Lib.strCells s) (by simpa[Lib.strCells_length] using hown') (by decide)
 ·exact(bG.grown hgrow (by have:=bG.size;omega) (fun k hk=>(bB.lt k hk).1)).setCell (p:=⟨b,1,none⟩) hB _
end
section
open Go.ChangeShapes Go.WideShapes Go.ChangeAt Go.RowKit Go.Sort Go.Lib Go.Joins
attribute [local go_sem ↓] aE
attribute [local go_sem] aJ aI aL
def eY(w : World): Prop := Lib.TabIs Tryz.prog w "internal/strconv.uint64pow10" .u64 Lib.pow10Tab
theorem eY.up(h : eY w)(hb : Below w.heap.size w w'): eY w' := tab_stays (show Tryz.prog.globalNamed "internal/strconv.uint64pow10" = some 0 by kernel_rfl) h hb lR
theorem aNw(w:Wo)(o:Obj)(dk:Array UInt8)(k:Nat):∃os,(putRow (fun(b:UInt8)=>Value.int .u8 (b.toNat:Int)) (w.alloc o) w.heap.size 0 dk).drewN k=grow (w.drewN k) os:=by
 rw[alloc_eq_grow];obtain⟨os',_,e⟩:=putRow_grow_new (fun(b:UInt8)=>Value.int .u8 (b.toNat:Int)) w #[o] w.heap.size 0 dk lR;exact⟨os',by rw[e];rfl⟩
theorem aEp(w:Wo)(T:TypeId)(nd:Nat)(hs:nd<=24):Holds (fun(b:UInt8)=>Value.int .u8 (b.toNat:Int)) (w.alloc (.cells Lib.zeros24 T)) w.heap.size 0 (Array.replicate nd (0:UInt8)):=fun j hj=>by
 have hj':j<nd:=by simpa using hj
 refine⟨?_,World.frozen?_alloc_new _ _ _ _⟩;rw[World.cell?_alloc_new,Lib.zeros24_at _ (by omega),getElem!_pos _ j hj];simp
theorem W5(u:Nat)(MS:u<18446744073709551616)(w:Wo)(ht:eY w):Calls Tryz.prog 137 #[.int .u64 u,.int .i64 10] w fun e w'=>e=.returned (.string ⟨(Lib.decDigits u).toArray⟩)/\Below w.heap.size w w':=by
 have HT:=lH ht;clear ht;by_cases hs:u<100
 ·go_enter Tryz.func137,Tryz.ntmps137
  (go_wp2_with fail);refine(Tryz.internal_strconv_small u hs w).mono ?_;rintro e w' ⟨rfl,rfl⟩;(go_wp2_with fail);go_ret;exact⟨rfl,bR⟩
 ·have hu1:1<=u:=by omega
  have aP9:Lib.nDigits u<=20:=by have:=Lib.numDigits_eq u hu1 MS;split at this<;>omega
  have DB:Tryz.prog.arrayLen 239=24:=by simp[Program.arrayLen,Tryz.underlying239]
  have aBN:∀W,(Instr.sliceAt 239 (.pointer (some ⟨w.heap.size,0,none⟩)) none (some (.int .i64 (Lib.nDigits u:Int))) none).run Tryz.prog W=.ok (.slice (some ⟨w.heap.size,0,none⟩) (Lib.nDigits u) 24) W:=fun W=>by
   rw[run_sliceAt_array_h W 239 ⟨w.heap.size,0,none⟩ (by simp[Program.arrayLen,Program.elem,Tryz.underlying239]) .i64 (Lib.nDigits u:Int) (by omega) (by rw[DB];omega)];go_simp
  have hH0:=aEp w 239 (Lib.nDigits u) (by omega);have aEJ:=Tryz.internal_strconv_formatBase10 w.heap.size 0 24 u (Array.replicate (Lib.nDigits u) 0) (w.alloc (.cells Lib.zeros24 239)) hH0 (by rw[Array.size_replicate];exact Lib.lt_pow_nDigits u) MS (by rw[Array.size_replicate];omega);rw[Array.size_replicate] at aEJ;have HH0:=lH hH0;have HF:=lH aEJ;clear hH0 DB aEJ;go_enter Tryz.func137,Tryz.ntmps137
  (go_wp2_with fail);refine(Tryz.internal_strconv_numDigits u hu1 MS _ (Lib.tabIs_alloc HT.o (.cells Lib.zeros24 239))).mono ?_;rintro e w1 ⟨rfl,rfl⟩;(go_wp2_with fail);refine HF.o.mono ?_;rintro e w' ⟨rfl,k,v',dk,rfl,hF⟩;have M7:(convert 180 9 (.slice (some ⟨w.heap.size,0,none⟩) (Lib.nDigits u) 24)).run Tryz.prog ((putRow (fun(b:UInt8)=>Value.int .u8 (b.toNat:Int)) (w.alloc (.cells Lib.zeros24 239)) w.heap.size 0 dk).drewN k)=.ok (.string ⟨(Lib.decDigits u).toArray⟩) ((putRow (fun(b:UInt8)=>Value.int .u8 (b.toNat:Int)) (w.alloc (.cells Lib.zeros24 239)) w.heap.size 0 dk).drewN k):=by
   have h:=run_convert_bytes_back (P:=Tryz.prog) ((putRow (fun(b:UInt8)=>Value.int .u8 (b.toNat:Int)) (w.alloc (.cells Lib.zeros24 239)) w.heap.size 0 dk).drewN k) 180 9 5 ⟨w.heap.size,0,none⟩ 24 (Lib.decDigits u) Tryz.underlying180 Tryz.underlying5 Tryz.underlying9 (fun j hj=>by
    rw[Lib.row_is_numeral hF j hj,Lib.add_plain,World.cell?_drewN];exact cell?_putRow (fun(b:UInt8)=>Value.int .u8 (b.toNat:Int)) _ w.heap.size 0 _ dk HH0.o (by rw[hF.size,Array.size_replicate]) j (by rw[hF.size];rw[Lib.decDigits_length] at hj;exact hj))
   rw[Lib.decDigits_length] at h;exact h
  have aEN:(convert 180 9 (.slice (some ⟨w.heap.size,0,none⟩) (Lib.nDigits u) 24)).run Tryz.prog (putRow (fun(b:UInt8)=>Value.int .u8 (b.toNat:Int)) (w.alloc (.cells Lib.zeros24 239)) w.heap.size 0 dk)=.ok (.string ⟨(Lib.decDigits u).toArray⟩) (putRow (fun(b:UInt8)=>Value.int .u8 (b.toNat:Int)) (w.alloc (.cells Lib.zeros24 239)) w.heap.size 0 dk):=by
   have h:=run_convert_bytes_back (P:=Tryz.prog) (putRow (fun(b:UInt8)=>Value.int .u8 (b.toNat:Int)) (w.alloc (.cells Lib.zeros24 239)) w.heap.size 0 dk) 180 9 5 ⟨w.heap.size,0,none⟩ 24 (Lib.decDigits u) Tryz.underlying180 Tryz.underlying5 Tryz.underlying9 (fun j hj=>by
    rw[Lib.row_is_numeral hF j hj,Lib.add_plain];exact cell?_putRow (fun(b:UInt8)=>Value.int .u8 (b.toNat:Int)) _ w.heap.size 0 _ dk HH0.o (by rw[hF.size,Array.size_replicate]) j (by rw[hF.size];rw[Lib.decDigits_length] at hj;exact hj))
   rw[Lib.decDigits_length] at h;exact h
  obtain⟨os,eo⟩:=aNw w (.cells Lib.zeros24 239) dk k;have HEO:=lH eo;clear eo;(go_wp2_with fail);go_ret;exact⟨rfl,by rw[HEO.o];exact Lib.below_grow w.heap.size w lR k os⟩
theorem aB3(u:Nat)(MS:u<18446744073709551616)(w:Wo)(ht:eY w):Calls Tryz.prog 106 #[.int .u64 u,.int .i64 10] w fun e w'=>e=.returned (.string ⟨(Lib.decDigits u).toArray⟩)/\Below w.heap.size w w':=by
 have HT:=lH ht;clear ht;go_enter Tryz.func106,Tryz.ntmps106
 go_wp2_with fail
 refine(W5 u MS w HT.o).mono ?_;rintro e w' ⟨rfl,hb⟩;have HB:=lH hb;clear hb
 go_wp2_with fail
 go_ret;exact⟨rfl,HB.o⟩
end
section
open Go.ChangeShapes Go.WideShapes Go.ChangeAt Go.RowKit
section
variable {P:Program}
theorem xN{ops:Array Oper}{rest:List Oper}{o:Oper}{a:Act}{Q:Exit->Act->World->Prop}{w:Wo}{lit:Array Value}{T:TypeId}(C4:o.guard=none)(s x:Operand)(t:TypeId)(ho:o.op=.call { callee:=.builtin .append,args:=#[s,x],argTypes:=#[t,t] })(base:Nat)(e:TypeId)(i:TypeInfo)(z:Value)(size bytes:Nat)(ht:P.underlying t=some (.slice e))(hi:P.info? e=some i)(hz:i.zero=some z)(eW:i.size=size)(sV:i.bytes=bytes)(zJ:z.cells.size=size)(gP:0<size)(v:Value)(n:Nat)(xs:List Value)(hs:a.eval s=v)(bB:w.ownsRow base e size v n xs)(hx:a.eval x=.slice (some ⟨w.heap.size,0,none⟩) 1 1)(hl:lit.size=size)(h1:∀u∈lit.toList,u.oneCell'=true)(yO:n+1<=maxLen)(eK:(n+1)*bytes<=140737488355328)(cP:base<=w.heap.size)(h:∀v' w',w'.ownsRow base e size v' (n+1) (xs++lit.toList)->Below base w w'->(w.alloc (.cells lit T)).grownBy w' v.ownBlock->wpList P ops Q rest (a.put o.dst v') w'):wpList P ops Q (o::rest) a (w.alloc (.cells lit T)):=by
 refine wpList_append_own_at _ C4 s x t ho base e i z size bytes ht hi hz eW sV zJ gP v n xs hs (bB.alloc _) ⟨w.heap.size,0,none⟩ 1 1 lit.toList hx (by rw[Array.length_toList,hl,Nat.one_mul]) (fun j u hu=>?_) h1 yO eK (eN cP (by simp)) fun v' w' h2 h3 _ _=>?_
 ·rw[Addr.add_lit,Nat.zero_add,(aD.new w T lit).cell j]
  simpa using hu
 ·exact h v' w' h2 (((Below.refl base w).alloc cP (.cells lit T)).grown h3 (eN cP (by simp)) fun k hk=>(bB.lt k hk).1) h3
end
theorem AN(h:w.ownsRow base e size v n xs)(hb:Below w.heap.size w w'):w'.ownsRow base e size v n xs:=by
 refine⟨h.1,?_⟩;rcases h.2 with h1 | ⟨g,cap,cur,h1,h2,h3,h4⟩
 ·exact .inl h1
 ·refine .inr ⟨g,cap,cur,h1,h2,?_,h4⟩
  exact(hb.block g (Array.getElem?_eq_some_iff.1 h3).1).trans h3
theorem VR(w:Wo)(base e size:Nat):w.ownsRow base e size (.slice none 0 0) 0 []:=⟨by simp,.inl ⟨rfl,rfl⟩⟩
theorem wM(h:w.ownsRow base e size v n xs):∃A c,v=.slice A n c/\Rd w w.heap.size size A n xs/\n<=c/\c<=maxLen/\(0<n->∃b off,A=some ⟨b,off,none⟩/\base<=b):=by
 have hl:=h.1;rcases h.2 with⟨h1,h2⟩ | ⟨g,cap,cur,h1,h2,h3,h4,h5,h6,h7⟩
 ·subst h2
  exact⟨none,0,h1,⟨hl,fun h=>by omega⟩,lR,by simp[maxLen],fun h=>by omega⟩
 ·refine⟨some ⟨g,0,none⟩,cap,h1,⟨hl,fun _=>⟨g,0,rfl,(Array.getElem?_eq_some_iff.1 h3).1,fun j u hu=>?_⟩⟩,h4,h5,fun _=>⟨g,0,rfl,h2⟩⟩
  have hb:aD w g e cur:=h3;rw[Nat.zero_add,hb.cell j];rw[<-h7] at hu;have hj:=(c_.1 hu).1;rw[kC] at hj;rw[List.getElem?_take_of_lt (by omega)] at hu;simpa using hu
def bO(S:Value->Prop)(w:Wo)(base:Nat)(e:TypeId)(size:Nat)(v:Value)(n:Nat)(xs:List Value):Prop:=
 xs.length=n*size/\((v=.slice none 0 0/\n=0)\/∃g cap cur,v=.slice (some ⟨g,0,none⟩) n cap/\base<=g/\aD w g e cur/\n<=cap/\cap<=maxLen/\cur.size=cap*size/\cur.toList.take (n*size)=xs/\∀u∈cur.toList,S u)
structure dZ (S:Value->Prop) (base:Nat) (e:TypeId) (w w':Wo):Prop where
 low:Below base w w'
 size:w.heap.size<=w'.heap.size
 cell:∀p u,w.cell? p=some u->¬S u->w'.cell? p=some u
 blk:∀b t cs,aD w b t cs->t≠e->aD w' b t cs
section
variable {S:Value->Prop} {w w':Wo} {base e size n:Nat} {v:Value} {xs:List Value}
theorem bO.own(h:bO S w base e size v n xs):w.ownsRow base e size v n xs:=by
 refine⟨h.1,?_⟩;rcases h.2 with h1 | ⟨g,cap,cur,h1,h2,h3,h4,h5,h6,h7,_⟩
 ·exact .inl h1
 ·exact .inr ⟨g,cap,cur,h1,h2,h3,h4,h5,h6,h7⟩
theorem bO.keep(h:bO S w base e size v n xs)(hb:Below w.heap.size w w'):bO S w' base e size v n xs:=by
 refine⟨h.1,?_⟩;rcases h.2 with h1 | ⟨g,cap,cur,h1,h2,h3,h4⟩
 ·exact .inl h1
 ·exact .inr ⟨g,cap,cur,h1,h2,h3.bl hb,h4⟩
theorem g9(S:Value->Prop)(w:Wo)(base e size:Nat):bO S w base e size (.slice none 0 0) 0 []:=⟨by simp,.inl ⟨rfl,rfl⟩⟩
theorem dZ.old(h:∀i,i<w.heap.size->w'.heap[i]?=w.heap[i]?)(hs:w.heap.size<=w'.heap.size)(ho:w'.os=w.os)(ht:w'.tape=w.tape)(hp:w'.output=w.output)(hbs:base<=w.heap.size):dZ S base e w w':=
 ⟨⟨ho,ht,hp,hs,fun i hi=>h i (jJ hi hbs)⟩,hs,fun p u hu _=>(World.cell?_of_block (h _ (World.block_lt_of_cell? w p hu))).trans hu,fun b t cs hb _=>(h b hb.lt).trans hb⟩
theorem T7{z:Array Value}{u:Value}(h:u∈(Builtin.zeroCells z k).toList):u∈z.toList:=by
 unfold Builtin.zeroCells at h;rw[Array.mem_toList_iff,Array.mem_map] at h;obtain⟨i,hi,rfl⟩:=h;rw[Array.mem_range] at hi;have hz:0<z.size:=by
  rcases Nat.eq_zero_or_pos z.size with e | e
  ·rw[e] at hi;simp at hi
  ·exact e
 have hm:i % z.size<z.size:=Nat.mod_lt _ hz;rw[getElem!_pos z _ hm];exact Array.mem_toList_iff.2 (Array.getElem_mem hm)
end
section
variable {P:Program}
theorem lA{S:Value->Prop}(w:Wo)(base:Nat)(t ty e:TypeId)(i:TypeInfo)(z:Value)(size bytes:Nat)(ht:P.underlying t=some (.slice e))(hi:P.info? e=some i)(hz:i.zero=some z)(eW:i.size=size)(sV:i.bytes=bytes)(zJ:z.cells.size=size)(gP:0<size)(K7:∀u∈z.cells.toList,S u)(v:Value)(n:Nat)(xs:List Value)(bB:bO S w base e size v n xs)(a:Addr)(m c:Nat)(news:List Value)(hl:news.length=m*size)(uT:∀j u,news[j]?=some u->w.cell? (a.add j)=some u)(h1:∀u∈news,u.oneCell'=true/\S u)(yO:n+m<=maxLen)(eK:(n+m)*bytes<=140737488355328)(cP:base<=w.heap.size)(hm:0<m):∃v' w',(Builtin.append_ #[t,t] ty #[v,.slice (some a) m c]).run P w=.ok v' w'/\bO S w' base e size v' (n+m) (xs++news)/\dZ S base e w w'/\(v'.ownBlock=v.ownBlock\/v'.ownBlock=some w.heap.size):=by
 subst eW;subst sV;have aEh:n+m<=9223372036854775807:=by simp only[maxLen] at yO;omega
 have d5:(xs++news).length=(n+m)*i.size:=by rw[jO,bB.1,hl,Nat.add_mul]
 have fresh:∀(old:Nat),(∀u∈xs,S u)->
     bO S (w.drew.alloc (.cells (xs.toArray++news.toArray++Builtin.zeroCells z.cells (grownCap w (n+m) old e-(n+m))) e)) base e i.size (.slice (some ⟨w.heap.size,0,none⟩) (n+m) (grownCap w (n+m) old e)) (n+m) (xs++news)/\
     dZ S base e w (w.drew.alloc (.cells (xs.toArray++news.toArray++Builtin.zeroCells z.cells (grownCap w (n+m) old e-(n+m))) e)):=by
  intro old hx;have LB:=grownCap_ge w (n+m) old e;refine⟨⟨d5,.inr ⟨w.heap.size,_,_,rfl,cP,aD.new w.drew _ _,LB,grownCap_le_maxLen w (n+m) old e yO,?_,?_,?_⟩⟩,dZ.old (fun k hk=>heap_alloc_old w.drew _ hk) (by simp) rfl rfl rfl cP⟩
  ·rw[Array.size_append,Array.size_append,List.size_toArray,List.size_toArray,size_zeroCells,zJ,bB.1,hl,<-Nat.add_mul,<-Nat.add_mul,Nat.add_sub_cancel' LB]
  ·rw[Array.toList_append,Array.toList_append,<-d5]
   exact List.take_left
  ·intro u hu
   rw[Array.toList_append,Array.toList_append,List.mem_append,List.mem_append] at hu;rcases hu with(hu | hu) | hu
   ·exact hx u (by simpa using hu)
   ·exact(h1 u (by simpa using hu)).2
   ·exact K7 u (T7 hu)
 rcases bB.2 with⟨rfl,rfl⟩ | ⟨g,cap,cur,rfl,hbg,hg,GU,JI,TT,XA,hS⟩
 ·have hx:xs=[]:=List.eq_nil_of_length_eq_zero (by simpa using bB.1)
  subst hx;have hr:=run_append_nil (P:=P) w t ty e i z ht hi hz a m c news hl uT hm (by omega) (by have hb:=eK;rw[Nat.zero_add] at hb;omega);obtain⟨f1,f2⟩:=fresh 0 (by simp);simp only[Nat.zero_add,List.nil_append,Array.empty_append] at f1 f2 ⊢;exact⟨_,_,hr,f1,f2,.inr rfl⟩
 ·have hxS:∀u∈xs,S u:=fun u hu=>hS u (List.mem_of_mem_take (by rw[XA];exact hu))
  by_cases uR:n+m<=cap
  ·have rW:n*i.size+news.length<=cur.size:=by rw[hl,TT,<-Nat.add_mul];exact Nat.mul_le_mul_right _ uR
   have hr:=run_append_room (P:=P) w t ty e i ht hi g n cap cur hg a m c news hl uT (fun u hu=>(h1 u hu).1) uR rW;have aEo:∀k,k≠g->(w.setRow g (cur.toList.take (n*i.size)++news++cur.toList.drop (n*i.size+news.length)).toArray).heap[k]?=w.heap[k]?:=fun k hk=>setRow_other w g k _ hk;refine⟨_,_,hr,⟨d5,.inr ⟨g,cap,_,rfl,hbg,setRow_heap w g cur _ e _ hg,uR,JI,?_,?_,?_⟩⟩,⟨⟨rfl,rfl,rfl,by simp,fun k hk=>aEo k (by omega)⟩,by simp,fun p u hu hn=>?_,fun b t' cs hb cK=>?_⟩,.inl rfl⟩
   ·rw[List.size_toArray,jO,jO,kC,G5,Array.length_toList]
    omega
   ·rw[XA,<-d5]
    exact List.take_left
   ·intro u hu
    rw[List.mem_append,List.mem_append] at hu;rcases hu with(hu | hu) | hu
    ·exact hS u (List.mem_of_mem_take hu)
    ·exact(h1 u hu).2
    ·exact hS u (List.mem_of_mem_drop hu)
   ·have hpg:p.block≠g:=by
     intro e;obtain⟨b,off,sp⟩:=p;simp only at e;subst e;cases sp with
     | none=>
      have:=hg.cell off;rw[this] at hu;exact hn (hS u (Array.mem_toList_iff.2 (Array.mem_of_getElem? hu)))
     | some s=>
      unfold World.cell? at hu;rw[show w.heap[b]?=some (.cells cur _ (0,0)) from hg] at hu;simp at hu
    exact(World.cell?_of_block (aEo _ hpg)).trans hu
   ·have aM9:b≠g:=by
     rintro rfl;have h2:some (Obj.cells cs t' (0,0))=some (Obj.cells cur e (0,0)):=hb.symm.trans hg;injection h2 with h2;injection h2 with _ h2;exact cK h2
    exact(aEo b aM9).trans hb
  ·have holds:∀j u,xs[j]?=some u->w.cell? ((⟨g,0,none⟩:Addr).add j)=some u:=bB.own.cells (g:=g) rfl
   have hr:=run_append_grow (P:=P) w t ty e i z ht hi hz ⟨g,0,none⟩ n cap xs bB.1 holds a m c news hl uT (by omega) (by omega) (growslice_fits (by omega) eK);obtain⟨f1,f2⟩:=fresh cap hxS;exact⟨_,_,hr,f1,f2,.inr rfl⟩
theorem xM{S:Value->Prop}{ops:Array Oper}{rest:List Oper}{o:Oper}{a:Act}{Q:Exit->Act->World->Prop}{w:Wo}{lit:Array Value}{T:TypeId}(C4:o.guard=none)(s x:Operand)(t:TypeId)(ho:o.op=.call { callee:=.builtin .append,args:=#[s,x],argTypes:=#[t,t] })(base:Nat)(e:TypeId)(i:TypeInfo)(z:Value)(size bytes:Nat)(ht:P.underlying t=some (.slice e))(hi:P.info? e=some i)(hz:i.zero=some z)(eW:i.size=size)(sV:i.bytes=bytes)(zJ:z.cells.size=size)(gP:0<size)(K7:∀u∈z.cells.toList,S u)(v:Value)(n:Nat)(xs:List Value)(hs:a.eval s=v)(bB:bO S w base e size v n xs)(hx:a.eval x=.slice (some ⟨w.heap.size,0,none⟩) 1 1)(hl:lit.size=size)(h1:∀u∈lit.toList,u.oneCell'=true/\S u)(yO:n+1<=maxLen)(eK:(n+1)*bytes<=140737488355328)(cP:base<=w.heap.size)(h:∀v' w',bO S w' base e size v' (n+1) (xs++lit.toList)->dZ S base e (w.alloc (.cells lit T)) w'->(v'.ownBlock=v.ownBlock\/v'.ownBlock=some (w.heap.size+1))->wpList P ops Q rest (a.put o.dst v') w'):wpList P ops Q (o::rest) a (w.alloc (.cells lit T)):=by
 refine wpList_plain C4 fun K hK=>?_;obtain⟨v',w',hr,h2,h3,h4⟩:=lA (P:=P) (w.alloc (.cells lit T)) base t o.type e i z size bytes ht hi hz eW sV zJ gP K7 v n xs (bB.keep (bA)) ⟨w.heap.size,0,none⟩ 1 1 lit.toList (by rw[Array.length_toList,hl,Nat.one_mul]) (fun j u hu=>by
  rw[Addr.add_lit,Nat.zero_add,(aD.new w T lit).cell j];simpa using hu) h1 yO eK (eN cP (by simp)) (by decide)
 unfold Oper.wp execOp;simp only[ho,resolve,invoke,builtin,Sem.run_bind,Sem.run_pure,Result.andThen_ok,List.map_toArray,List.map_cons,List.map_nil,hs,hx,hr];exact hK _ _ (h v' w' h2 h3 (by simpa using h4))
end
end
section
abbrev Fn:=Nat->Rat
def aP:Nat->Fn->Rat
 | 0,_=>0
 | n+1,f=>aP n f+f n
theorem aO:∀{n:Nat}{f g:Fn},(∀i,i<n->f i=g i)->aP n f=aP n g
 | 0,_,_,_=>rfl
 | n+1,f,g,h=>by rw[aP,aP,aO fun i hi=>h i (by omega),h n (by omega)]
theorem cD:∀{n:Nat}{f:Fn},(∀i,i<n->f i=0)->aP n f=0
 | 0,_,_=>rfl
 | n+1,f,h=>by rw[aP,cD fun i hi=>h i (by omega),h n (by omega)];exact Rat.add_zero 0
theorem cM(f g:Fn):∀n:Nat,aP n (fun i=>f i+g i)=aP n f+aP n g
 | 0=>(Rat.add_zero 0).symm
 | n+1=>by rw[aP,aP,aP,cM f g n];grind
theorem eC(c:Rat)(f:Fn):∀n:Nat,aP n (fun i=>c*f i)=c*aP n f
 | 0=>(Rat.mul_zero c).symm
 | n+1=>by rw[aP,aP,eC c f n];grind
theorem dR{f:Fn}(hk:k<n)(h:∀i,i<n->i≠k->f i=0):aP n f=f k:=by
 induction n with
 | zero=>omega
 | succ n ih=>
  rw[aP];by_cases hn:k=n
  ·subst hn
   rw[cD fun i hi=>h i (by omega) (by omega),Rat.zero_add]
  ·rw[ih (by omega) (fun i hi uU=>h i (by omega) uU),h n (by omega) (fun e=>hn e.symm),Rat.add_zero]
theorem sM(f:Nat->Nat->Rat)(m:Nat):∀n:Nat,aP n (fun i=>aP m fun j=>f i j)=aP m (fun j=>aP n fun i=>f i j)
 | 0=>by
  rw[aP,cD];intro i _;rfl
 | n+1=>by
  rw[aP,sM f m n,<-cM];rfl
def a_(n:Nat)(a x:Fn):Rat:=aP n fun i=>a i*x i
theorem YP(n:Nat)(a x y:Fn):a_ n a (fun i=>x i+y i)=a_ n a x+a_ n a y:=by
 unfold a_;rw[<-cM];exact aO fun i _=>by grind
theorem YO(n:Nat)(a x:Fn)(c:Rat):a_ n a (fun i=>c*x i)=c*a_ n a x:=by
 unfold a_;rw[<-eC];exact aO fun i _=>by grind
theorem SH(n:Nat)(a b x:Fn):a_ n (fun i=>a i+b i) x=a_ n a x+a_ n b x:=by
 unfold a_;rw[<-cM];exact aO fun i _=>by grind
theorem EL(n:Nat)(a x:Fn)(c:Rat):a_ n (fun i=>c*a i) x=c*a_ n a x:=by
 unfold a_;rw[<-eC];exact aO fun i _=>by grind
theorem s_{a b x y:Fn}(h:∀i,i<n->a i=b i)(h2:∀i,i<n->x i=y i):a_ n a x=a_ n b y:=
 aO fun i hi=>by rw[h i hi,h2 i hi]
def TW(n:Nat)(A:List Fn)(x:Fn):Prop:=∀a∈A,a_ n a x=0
structure CH (M:List Fn) (piv:List Nat) (k:Nat):Prop where
 le:piv.length<=M.length
 inc:piv.Pairwise (·<·)
 lt:∀p∈piv,p<k
 one:∀(t p:Nat)(a:Fn),piv[t]?=some p->M[t]?=some a->a p=1
 zer:∀(t p i:Nat)(a:Fn),piv[t]?=some p->M[i]?=some a->i≠t->a p=0
 low:∀(t p:Nat)(a:Fn),piv[t]?=some p->M[t]?=some a->∀j,j<p->a j=0
 rest:∀(i:Nat)(a:Fn),M[i]?=some a->piv.length<=i->∀j,j<k->a j=0
namespace CH
variable {A : OA} {B N base c e g i j k n p r s size u : Nat} {M0 : List (List Rat)} {R a b row : List Rat} {d f x : Rat} {m : Int} {out : List Int} {piv : List Nat} {v : Value} {w w' : World} {xs : List Value}
variable {M:List Fn} {piv:List Nat} {n:Nat}
def free(piv:List Nat)(n:Nat):List Nat:=(List.range n).filter fun j=>!piv.contains j
theorem nodup(E:CH M piv n):piv.Nodup:=E.inc.imp fun h=>Nat.ne_of_lt h
theorem free_len(E:CH M piv n):(free piv n).length+piv.length=n:=by
 have h1:((List.range n).filter fun j=>piv.contains j).length=piv.length:=by
  refine List.Perm.length_eq ((List.perm_ext_iff_of_nodup (List.Pairwise.filter _ List.nodup_range) E.nodup).2 fun a=>?_);rw[List.mem_filter,List.mem_range]
  constructor
  ·intro h;simpa using h.2
  ·intro h;exact⟨E.lt a h,by simpa using h⟩
 have h2:=List.length_eq_countP_add_countP (fun j=>piv.contains j) (l:=List.range n);rw[List.length_range,List.countP_eq_length_filter,List.countP_eq_length_filter,h1] at h2;unfold free;have h3:((List.range n).filter fun j=>!piv.contains j)=((List.range n).filter fun a=>decide ¬piv.contains a=true):=by
  congr 1
  funext j
  cases piv.contains j<;>rfl
 rw[h3];omega
theorem mem_free:j∈free piv n<->j<n/\j∉piv:=by
 unfold free;rw[List.mem_filter,List.mem_range];simp
theorem ker_zero(E:CH M piv n){z:Fn}(hz:TW n M z)(hf:∀j,j<n->j∉piv->z j=0):∀j,j<n->z j=0:=by
 intro j hj;by_cases hp:j∈piv
 ·obtain⟨t,ht⟩:=List.mem_iff_getElem?.1 hp
  have htl:=(c_.1 ht).1;obtain⟨a,ha⟩:∃a,M[t]?=some a:=⟨_,jP (jJ htl E.le)⟩;have h:=hz a (cS ha);unfold a_ at h;rw[dR hj,E.one t j a ht ha,Rat.one_mul] at h
  ·exact h
  ·intro i hi rV
   by_cases XS:i∈piv
   ·obtain⟨s,hs⟩:=List.mem_iff_getElem?.1 XS
    rw[E.zer s i t a hs ha (fun e=>by subst e;rw[ht] at hs;injection hs with hs;exact rV hs.symm),Rat.zero_mul]
   ·rw[hf i hi XS,Rat.mul_zero]
 ·exact hf j hj hp
def bas(M:List Fn)(piv:List Nat)(c:Nat):Fn:=fun j=>if j=c then 1 else match piv.findIdx? (· == j) with
 | some t=>-((M.getD t (fun _=>0)) c)
 | none=>0
theorem bas_free(hj:j∉piv):bas M piv c j=if j=c then 1 else 0:=by
 unfold bas;by_cases h:j=c
 ·rw[if_pos h,if_pos h]
 ·rw[if_neg h,if_neg h]
  have:piv.findIdx? (· == j)=none:=List.findIdx?_eq_none_iff.2 fun x hx=>by
   have:x≠j:=fun e=>hj (e▸hx);simpa using this
  rw[this]
theorem bas_piv(E:CH M piv n){t:Nat}{a:Fn}(hc:c∉piv)(ht:piv[t]?=some p)(ha:M[t]?=some a):bas M piv c p=-(a c):=by
 unfold bas;have hp:=cS ht;rw[if_neg (fun e:p=c=>hc (by rw[<-e];exact hp))];have:piv.findIdx? (· == p)=some t:=by
  rw[List.findIdx?_eq_some_iff_getElem];obtain⟨hl,he⟩:=c_.1 ht;refine⟨hl,by simp[he],fun j hj=>?_⟩;have h1:=(List.pairwise_iff_getElem.1 E.inc) j t (by omega) hl hj;rw[he] at h1;simp;omega
 rw[this];simp only;rw[dQ,ha];rfl
theorem bas_ker(E:CH M piv n)(hc:c<n)(hcp:c∉piv):TW n M (bas M piv c):=by
 intro a ha;obtain⟨i,hi⟩:=List.mem_iff_getElem?.1 ha;by_cases hr:piv.length<=i
 ·unfold a_
  exact cD fun j hj=>by rw[E.rest i a hi hr j hj,Rat.zero_mul]
 ·obtain⟨p,hp⟩:∃p,piv[i]?=some p:=eG (by omega)
  have hpn:=E.lt p (cS hp);have hpc:p≠c:=fun e=>hcp (e▸cS hp);have key:∀j,j<n->a j*bas M piv c j=(if j=c then a c else 0)+(if j=p then -(a c) else 0):=fun j hj=>by
   by_cases hjp:j∈piv
   ·obtain⟨s,hs⟩:=List.mem_iff_getElem?.1 hjp
    have hjc:j≠c:=fun e=>hcp (e▸hjp);rw[if_neg hjc]
    by_cases O0:j=p
    ·subst O0
     rw[if_pos rfl,E.one i j a hp hi,E.bas_piv hcp hp hi,Rat.one_mul,Rat.zero_add]
    ·rw[if_neg O0,E.zer s j i a hs hi (fun e=>by subst e;rw[hp] at hs;injection hs with hs;exact O0 hs.symm),Rat.zero_mul,Rat.add_zero]
   ·rw[bas_free hjp]
    have O0:j≠p:=fun e=>hjp (e▸cS hp);rw[if_neg O0,Rat.add_zero]
    by_cases h:j=c
    ·subst h;rw[if_pos rfl,if_pos rfl,Rat.mul_one]
    ·rw[if_neg h,if_neg h,Rat.mul_zero]
  unfold a_;rw[aO key,cM,dR (k:=c) hc (fun i _ h=>if_neg h),dR (k:=p) hpn (fun i _ h=>if_neg h),if_pos rfl,if_pos rfl];exact Rat.add_neg_cancel _
end CH
theorem DU{M:List Fn}(E:CH M piv n):piv.length=n<->∀x,TW n M x->∀j,j<n->x j=0:=by
 have hl:=E.free_len
 constructor
 ·intro h x hx
  refine E.ker_zero hx fun j hj hjp=>?_;have:j∈CH.free piv n:=CH.mem_free.2 ⟨hj,hjp⟩;rw[List.eq_nil_of_length_eq_zero (by omega:(CH.free piv n).length=0)] at this;cases this
 ·intro h
  refine Classical.byContradiction fun cK=>?_;obtain⟨c,hc⟩:∃c,c∈CH.free piv n:=List.exists_mem_of_length_pos (by omega);obtain⟨h1,h2⟩:=CH.mem_free.1 hc;have:=h _ (E.bas_ker h1 h2) c h1;rw[CH.bas_free h2,if_pos rfl] at this;exact absurd this (by decide)
end
section
open Go.ChangeShapes Go.WideShapes Go.ChangeAt Go.RowKit Go.Joins
section
variable {P:Program}
theorem dZ.refl(S:Value->Prop)(base:Nat)(e:TypeId)(w:Wo):dZ S base e w w:=⟨bR,lR,fun _ _ h _=>h,fun _ _ _ h _=>h⟩
theorem bO.shape{S:Value->Prop}(h:bO S w base e size v n xs):∃A c,v=.slice A n c/\n<=c/\c<=maxLen:=by
 rcases h.2 with⟨h1,h2⟩ | ⟨g,cap,cur,h1,h2,h3,h4,h5,h6⟩
 ·subst h2;exact⟨none,0,h1,lR,by simp[maxLen]⟩
 ·exact⟨_,cap,h1,h4,h5⟩
theorem CR{S:Value->Prop}(w:Wo)(base:Nat)(t ty e:TypeId)(i:TypeInfo)(z:Value)(size bytes:Nat)(ht:P.underlying t=some (.slice e))(hi:P.info? e=some i)(hz:i.zero=some z)(eW:i.size=size)(sV:i.bytes=bytes)(zJ:z.cells.size=size)(gP:0<size)(K7:∀u∈z.cells.toList,S u)(v:Value)(n:Nat)(xs:List Value)(bB:bO S w base e size v n xs)(A:OA)(m c:Nat)(news:List Value)(hr:Rd w w.heap.size size A m news)(h1:∀u∈news,u.oneCell'=true/\S u)(yO:n+m<=maxLen)(eK:(n+m)*bytes<=140737488355328)(cP:base<=w.heap.size):∃v' w',(Builtin.append_ #[t,t] ty #[v,.slice A m c]).run P w=.ok v' w'/\bO S w' base e size v' (n+m) (xs++news)/\dZ S base e w w'/\(v=.slice none 0 0->Below w.heap.size w w'/\bO S w' w.heap.size e size v' (n+m) (xs++news))/\(v'.ownBlock=v.ownBlock\/v'.ownBlock=some w.heap.size):=by
 rcases Nat.eq_zero_or_pos m with rfl | h0
 ·have hn:news=[]:=List.eq_nil_of_length_eq_zero (by simpa using hr.1)
  subst hn;obtain⟨A1,c1,rfl,hc,hc2⟩:=bB.shape;have rU:Src P i.size t (.slice A 0 c) 0 [] w:=by
   cases A with
   | none=>exact Src.ofNil w ht c
   | some ad=>exact Src.ofSlice w ht ad 0 c [] (by simp) (fun j u hu=>by simp at hu) (fun u hu=>by cases hu)
  refine⟨_,w,run_append_nothing (P:=P) w t t ty e i ht hi A1 n c1 hc (.slice A 0 c) rU,by rw[List.append_nil];exact bB,dZ.refl _ _ _ _,fun hv=>⟨bR,?_⟩,.inl rfl⟩;injection hv with a1 a2 a3;subst a1;subst a2;subst a3;rw[List.append_nil];exact⟨bB.1,.inl ⟨rfl,rfl⟩⟩
 ·obtain⟨b,off,rfl,hb,hc⟩:=hr.2 h0
  by_cases hv:v=.slice none 0 0
  ·subst hv
   have A_:bO S w w.heap.size e size (.slice none 0 0) n xs:=by
    refine⟨bB.1,?_⟩;rcases bB.2 with h | ⟨g,cap,cur,h,_⟩
    ·exact .inl h
    ·cases h
   obtain⟨v',w',g1,g2,g3,g4⟩:=lA (P:=P) w w.heap.size t ty e i z size bytes ht hi hz eW sV zJ gP K7 _ n xs A_ ⟨b,off,none⟩ m c news hr.1 (fun j u hu=>by rw[Addr.add_lit];exact hc j u hu) h1 yO eK lR h0;refine⟨v',w',g1,⟨g2.1,?_⟩,⟨⟨g3.low.os,g3.low.tape,g3.low.output,g3.low.size,fun k hk=>g3.low.block k (jJ hk cP)⟩,g3.size,g3.cell,g3.blk⟩,fun _=>⟨g3.low,g2⟩,g4⟩;exact g2.2.imp id fun⟨g,cap,cur,k1,k2,k3⟩=>⟨g,cap,cur,k1,eN cP k2,k3⟩
  ·obtain⟨v',w',g1,g2,g3,g4⟩:=lA (P:=P) w base t ty e i z size bytes ht hi hz eW sV zJ gP K7 v n xs bB ⟨b,off,none⟩ m c news hr.1 (fun j u hu=>by rw[Addr.add_lit];exact hc j u hu) h1 yO eK cP h0
   exact⟨v',w',g1,g2,g3,fun h=>absurd h hv,g4⟩
theorem aAS{S:Value->Prop}{o:Oper}{a:Act}{w:Wo}{K:Act->World->Prop}{Q:Exit->Act->World->Prop}(s x:Operand)(t:TypeId)(ho:o.op=.call { callee:=.builtin .append,args:=#[s,x],argTypes:=#[t,t] })(base:Nat)(e:TypeId)(i:TypeInfo)(z:Value)(size bytes:Nat)(ht:P.underlying t=some (.slice e))(hi:P.info? e=some i)(hz:i.zero=some z)(eW:i.size=size)(sV:i.bytes=bytes)(zJ:z.cells.size=size)(gP:0<size)(K7:∀u∈z.cells.toList,S u)(v:Value)(n:Nat)(xs:List Value)(hs:a.eval s=v)(bB:bO S w base e size v n xs)(A:OA)(m c:Nat)(news:List Value)(hx:a.eval x=.slice A m c)(hr:Rd w w.heap.size size A m news)(h1:∀u∈news,u.oneCell'=true/\S u)(yO:n+m<=maxLen)(eK:(n+m)*bytes<=140737488355328)(cP:base<=w.heap.size)(h:∀v' w',bO S w' base e size v' (n+m) (xs++news)->dZ S base e w w'->(v=.slice none 0 0->Below w.heap.size w w'/\bO S w' w.heap.size e size v' (n+m) (xs++news))->(v'.ownBlock=v.ownBlock\/v'.ownBlock=some w.heap.size)->K (a.put o.dst v') w'):o.wp P a w K Q:=by
 obtain⟨v',w',g1,g2,g3,g4,g5⟩:=CR (P:=P) w base t o.type e i z size bytes ht hi hz eW sV zJ gP K7 v n xs bB A m c news hr h1 yO eK cP;unfold Oper.wp execOp;simp only[ho,resolve,invoke,builtin,Sem.run_bind,Sem.run_pure,Result.andThen_ok,List.map_toArray,List.map_cons,List.map_nil,hs,hx,g1];exact h v' w' g2 g3 g4 g5
theorem mT{S:Value->Prop}{ops:Array Oper}{rest:List Oper}{o:Oper}{a:Act}{Q:Exit->Act->World->Prop}{w:Wo}(C4:o.guard=none)(s x:Operand)(t:TypeId)(ho:o.op=.call { callee:=.builtin .append,args:=#[s,x],argTypes:=#[t,t] })(base:Nat)(e:TypeId)(i:TypeInfo)(z:Value)(size bytes:Nat)(ht:P.underlying t=some (.slice e))(hi:P.info? e=some i)(hz:i.zero=some z)(eW:i.size=size)(sV:i.bytes=bytes)(zJ:z.cells.size=size)(gP:0<size)(K7:∀u∈z.cells.toList,S u)(v:Value)(n:Nat)(xs:List Value)(hs:a.eval s=v)(bB:bO S w base e size v n xs)(A:OA)(m c:Nat)(news:List Value)(hx:a.eval x=.slice A m c)(hr:Rd w w.heap.size size A m news)(h1:∀u∈news,u.oneCell'=true/\S u)(yO:n+m<=maxLen)(eK:(n+m)*bytes<=140737488355328)(cP:base<=w.heap.size)(h:∀v' w',bO S w' base e size v' (n+m) (xs++news)->dZ S base e w w'->(v=.slice none 0 0->Below w.heap.size w w'/\bO S w' w.heap.size e size v' (n+m) (xs++news))->(v'.ownBlock=v.ownBlock\/v'.ownBlock=some w.heap.size)->wpList P ops Q rest (a.put o.dst v') w'):wpList P ops Q (o::rest) a w:=by
 refine wpList_plain C4 fun K hK=>?_;exact aAS s x t ho base e i z size bytes ht hi hz eW sV zJ gP K7 v n xs hs bB A m c news hx hr h1 yO eK cP fun v' w' a1 a2 a3 a4=>hK _ _ (h v' w' a1 a2 a3 a4)
end
end
section
open Go
def dU(u:Nat)(m:Int)(s:List Int×List Nat)(x:Nat×Nat):List Int×List Nat:=
 if(x.1=u\/x.2=u)/\s.1.getD (x.1+x.2-u) 0<0 then(s.1.set (x.1+x.2-u) m,s.2++[x.1+x.2-u]) else s
def hY(u:Nat)(m:Int)(es:List (Nat×Nat))(s:List Int×List Nat):List Int×List Nat:=es.foldl (dU u m) s
def mO(m:Int)(es:List (Nat×Nat)):Nat->List Int->List Nat->List Int
 | 0,out,_=>out
 | _+1,out,[]=>out
 | f+1,out,u::q=>mO m es f (hY u m es (out,q)).1 (hY u m es (out,q)).2
def FL(n:Nat)(es:List (Nat×Nat)):Nat->Nat->List Int×Int->List Int×Int
 | 0,_,s=>s
 | k+1,i,s=>if 0<=s.1.getD i 0 then FL n es k (i+1) s else FL n es k (i+1) (mO s.2 es (n+1) (s.1.set i s.2) [i],s.2+1)
def eQ(n:Nat)(es:List (Nat×Nat)):List Int:=(FL n es n 0 (List.replicate n (-1),0)).1
def uH(l:List Int):Nat:=(l.filter (·<0)).length
theorem uG:∀(l:List Int)(i:Nat)(m:Int),0<=m->i<l.length->l.getD i 0<0->uH (l.set i m)+1=uH l
 | [],i,m,_,h,_=>by simp at h
 | x::r,0,m,hm,_,h=>by
  have hx:x<0:=by simpa using h
  have h1:¬m<0:=by omega
  simp[uH,hx,h1]
 | x::r,i+1,m,hm,hl,h=>by
  have ih:=uG r i m hm (by simpa using hl) (by simpa using h);unfold uH at ih ⊢;rw[List.set_cons_succ];by_cases hx:x<0<;>simp[List.filter_cons,hx]<;>omega
theorem Q2(u:Nat)(m:Int)(s:List Int×List Nat)(x:Nat×Nat):(dU u m s x).1.length=s.1.length:=by
 unfold dU;split<;>simp
structure Ps (n:Nat) (m:Int) (out:List Int) (q:List Nat):Prop where
 len:out.length=n
 lt:∀u∈q,u<n
 bd:∀x∈out,-1<=x/\x<=m
theorem IU{s:List Int×List Nat}{x:Nat×Nat}(hm:0<=m)(hx:x.1<n/\x.2<n)(h:Ps n m s.1 s.2):Ps n m (dU u m s x).1 (dU u m s x).2/\(dU u m s x).2.length+uH (dU u m s x).1=s.2.length+uH s.1/\s.2.length<=(dU u m s x).2.length:=by
 unfold dU;split
 ·rename_i hc
  have ho:x.1+x.2-u<n:=by omega
  refine⟨⟨by simp[h.len],fun v hv=>?_,fun y hy=>?_⟩,?_,by simp⟩
  ·rcases List.mem_append.1 hv with hv | hv
   ·exact h.lt v hv
   ·rw[List.mem_singleton.1 hv];exact ho
  ·rcases List.mem_or_eq_of_mem_set hy with hy | rfl
   ·exact h.bd y hy
   ·omega
  ·have:=uG s.1 _ m hm (by rw[h.len];exact ho) hc.2
   simp;omega
 ·exact⟨h,rfl,lR⟩
theorem AJ{u:Nat}(hm:0<=m):∀{es:List (Nat×Nat)} {s:List Int×List Nat},(∀x∈es,x.1<n/\x.2<n)->Ps n m s.1 s.2->
    Ps n m (hY u m es s).1 (hY u m es s).2/\(hY u m es s).2.length+uH (hY u m es s).1=s.2.length+uH s.1
 | [],s,_,h=>⟨h,rfl⟩
 | x::r,s,hx,h=>by
  have h1:=IU (u:=u) hm (hx x (List.mem_cons_self ..)) h;have h2:=AJ (u:=u) hm (fun y hy=>hx y (List.mem_cons_of_mem _ hy)) h1.1;exact⟨h2.1,h2.2.trans h1.2.1⟩
theorem zG(hm:0<=m){es:List (Nat×Nat)}(hx:∀x∈es,x.1<n/\x.2<n):∀(f:Nat){out:List Int}{q:List Nat},Ps n m out q->(mO m es f out q).length=n/\(∀x∈mO m es f out q,-1<=x/\x<=m)
 | 0,out,q,h=>⟨h.len,h.bd⟩
 | f+1,out,[],h=>⟨h.len,h.bd⟩
 | f+1,out,u::q,h=>by
  have h1:Ps n m out q:=⟨h.len,fun v hv=>h.lt v (List.mem_cons_of_mem _ hv),h.bd⟩;exact zG hm hx f (AJ (s:=(out,q)) hm hx h1).1
theorem OR(l:List Int):uH l<=l.length:=List.length_filter_le _ _
theorem L7(hm:0<=m)(s:List Int×List Nat)(x:Nat×Nat)(h:0<=s.1.getD j 0):0<=(dU u m s x).1.getD j 0:=by
 unfold dU;split
 ·simp only[dQ] at h ⊢
  rw[List.getElem?_set];split
  ·split
   ·simpa using hm
   ·simp
  ·exact h
 ·exact h
theorem AK(hm:0<=m):∀(es:List (Nat×Nat)) (s:List Int×List Nat) {j:Nat},0<=s.1.getD j 0->0<=(hY u m es s).1.getD j 0
 | [],s,j,h=>h
 | x::r,s,j,h=>AK hm r (dU u m s x) (L7 hm s x h)
theorem DX(hm:0<=m)(es:List (Nat×Nat)):∀(f:Nat)(out:List Int)(q:List Nat){j:Nat},0<=out.getD j 0->0<=(mO m es f out q).getD j 0
 | 0,out,q,j,h=>h
 | f+1,out,[],j,h=>h
 | f+1,out,u::q,j,h=>DX hm es f _ _ (AK hm es (out,q) h)
theorem MA{es:List (Nat×Nat)}(hx:∀x∈es,x.1<n/\x.2<n):∀(k i:Nat)(s:List Int×Int),s.1.length=n->i+k=n->(∀x∈s.1,-1<=x/\x<s.2)->0<=s.2->s.2<=i->(∀j,j<i->0<=s.1.getD j 0)->
    (FL n es k i s).1.length=n/\(∀x∈(FL n es k i s).1,-1<=x/\x<n)/\∀j,j<n->0<=(FL n es k i s).1.getD j 0
 | 0,i,s,hl,hi,hb,h0,h1,hj=>by
  refine⟨hl,fun x hx=>?_,fun j h=>hj j (by omega)⟩;have:=hb x hx;omega
 | k+1,i,s,hl,hi,hb,h0,h1,hj=>by
  unfold FL;split
  ·rename_i hz
   exact MA hx k (i+1) s hl (by omega) hb h0 (by omega) (fun j h=>by
    by_cases O0:j=i
    ·subst O0;exact hz
    ·exact hj j (by omega))
  ·rename_i hz
   have rH:i<s.1.length:=by omega
   have vL:Ps n s.2 (s.1.set i s.2) [i]:=⟨by simp[hl],fun v hv=>(by rw[List.mem_singleton.1 hv];omega),fun x hx=>by
    rcases List.mem_or_eq_of_mem_set hx with hx | rfl
    ·have:=hb x hx;omega
    ·omega⟩
   have h2:=zG h0 hx (n+1) vL;refine MA hx k (i+1) _ h2.1 (by omega) (fun x hx=>(by have:=h2.2 x hx;show _/\_<s.2+1;omega)) (by show 0<=s.2+1;omega) (by show s.2+1<=_;omega) (fun j h=>?_);refine DX h0 es _ _ _ ?_;rw[dQ,List.getElem?_set];by_cases O0:i=j
   ·subst O0
    rw[if_pos rfl,if_pos rH];exact h0
   ·rw[if_neg O0,<-dQ]
    exact hj j (by omega)
theorem l9{es:List (Nat×Nat)}(hx:∀x∈es,x.1<n/\x.2<n):(eQ n es).length=n/\∀x∈eQ n es,0<=x/\x<n:=by
 obtain⟨h1,h2,h3⟩:=MA hx n 0 (List.replicate n (-1),0) (by simp) (by omega) (fun x hx=>(by rw[List.eq_of_mem_replicate hx];exact⟨by omega,show(-1:Int)<0 by omega⟩)) (by show(0:Int)<=0;omega) (by show(0:Int)<=_;omega) (fun j h=>by omega);refine⟨h1,fun x hx=>?_⟩;have h4:=h2 x hx;obtain⟨j,hj⟩:=List.mem_iff_getElem?.1 hx;have pQ:=(c_.1 hj).1;have h5:=h3 j (by unfold eQ at pQ;omega);rw[dQ,show(FL n es n 0 (List.replicate n (-1),0)).1[j]?=some x from hj] at h5;exact⟨h5,h4.2⟩
def z_(l:List Int):Int:=l.foldl (fun a b=>max a (b+1)) 0
theorem SB(l:List Int):∀a:Int,a<=l.foldl (fun a b=>max a (b+1)) a/\(∀b∈l,b<l.foldl (fun a b=>max a (b+1)) a)/\∀c,a<=c->(∀b∈l,b<c)->l.foldl (fun a b=>max a (b+1)) a<=c:=by
 induction l with
 | nil=>intro a;exact⟨Int.le_refl _,fun _ h=>(by cases h),fun c h _=>h⟩
 | cons x r ih=>
  intro a;obtain⟨h1,h2,h3⟩:=ih (max a (x+1));rw[List.foldl_cons];refine⟨by omega,fun b hb=>?_,fun c hc hb=>h3 c ?_ (fun b h=>hb b (List.mem_cons_of_mem _ h))⟩
  ·rcases List.mem_cons.1 hb with rfl | hb
   ·omega
   ·exact h2 b hb
  ·have:=hb x (List.mem_cons_self ..);omega
theorem yZ(l:List Int):0<=z_ l/\(∀b∈l,b<z_ l)/\∀c,0<=c->(∀b∈l,b<c)->z_ l<=c:=SB l 0
end
section
open Go.ChangeShapes Go.WideShapes Go.ChangeAt Go.RowKit Go.Deep
structure Qu (w:Wo) (base:Nat) (v:Value) (xs:List Value):Prop where
 ex:∃g off cap,v=.slice (some ⟨g,off,none⟩) xs.length cap/\base<=g/\g<w.heap.size/\xs.length<=cap/\cap<=maxLen/\(∀j,j<cap->(w.cell? ⟨g,off+j,none⟩).isSome=true/\w.frozen? ⟨g,off+j,none⟩=false)/\∀(j:Nat)(u:Value),xs[j]?=some u->w.cell? ⟨g,off+j,none⟩=some u
theorem Qu.up(h:Qu w base v xs)(hb:Below w.heap.size w w'):Qu w' base v xs:=by
 obtain⟨g,off,cap,h1,h2,h3,h4,h5,h6,h7⟩:=h.ex;exact⟨g,off,cap,h1,h2,jJ h3 hb.size,h4,h5,fun j hj=>by rw[hb.cell h3,hb.frozen h3];exact h6 j hj,fun j u hu=>by rw[hb.cell h3];exact h7 j u hu⟩
theorem Qu.tail{off cap:Nat}{x:Value}(h:Qu w base (.slice (some ⟨g,off,none⟩) n cap) (x::xs)):Qu w base (.slice (if cap=1 then some ⟨g,off,none⟩ else some ⟨g,off+1,none⟩) (n-1) (cap-1)) xs:=by
 obtain⟨g',off',cap',h1,h2,h3,h4,h5,h6,h7⟩:=h.ex;injection h1 with e1 e2 e3;injection e1 with e1;injection e1 with e4 e5;subst e2;subst e3;subst e4;subst e5;simp only[G4,Nat.add_sub_cancel] at h4 ⊢;by_cases hc:cap=1
 ·have hx:xs.length=0:=by omega
  rw[if_pos hc];refine⟨g,off,cap-1,rfl,h2,h3,by omega,by omega,fun j hj=>by omega,fun j u hu=>?_⟩;have:=(c_.1 hu).1;omega
 ·rw[if_neg hc]
  refine⟨g,off+1,cap-1,rfl,h2,h3,by omega,by omega,fun j hj=>?_,fun j u hu=>?_⟩
  ·rw[Nat.add_assoc,Nat.add_comm 1 j];exact h6 (j+1) (by omega)
  ·rw[Nat.add_assoc,Nat.add_comm 1 j];exact h7 (j+1) u (by simpa using hu)
theorem FH{P:Program}(w:Wo)(base:Nat)(t ty e:TypeId)(i:TypeInfo)(z:Value)(ht:P.underlying t=some (.slice e))(hi:P.info? e=some i)(hz:i.zero=some z)(eW:i.size=1)(sV:i.bytes<=16)(zJ:z.cells.size=1)(v:Value)(xs:List Value)(h:Qu w base v xs)(a:Addr)(c:Nat)(u:Value)(hu:w.cell? a=some u)(h1:u.oneCell'=true)(ha:a.spot=none)(d5:xs.length<=1000000)(cP:base<=w.heap.size):∃v' w',(Builtin.append_ #[t,t] ty #[v,.slice (some a) 1 c]).run P w=.ok v' w'/\Qu w' base v' (xs++[u])/\Below base w w'/\∀g off n cap,v=.slice (some ⟨g,off,none⟩) n cap->w.grownBy w' (some g):=by
 obtain⟨g,off,cap,rfl,h2,h3,h4,h5,h6,h7⟩:=h.ex;have uT:∀(j:Nat)(x:Value),([u]:List Value)[j]?=some x->w.cell? (a.add j)=some x:=fun j x hx=>by
  have hj:j=0:=by have:=(c_.1 hx).1;simpa using this
  subst hj;simp at hx;subst hx;obtain⟨ab,ao,asp⟩:=a;simp only at ha;subst ha;rw[Addr.add_lit,Nat.add_zero];exact hu
 have rU:Src P i.size t (.slice (some a) 1 c) 1 [u] w:=Src.ofSlice w ht a 1 c [u] (by rw[eW];rfl) uT (fun x hx=>by rw[List.mem_singleton.1 hx];exact h1);by_cases uR:xs.length+1<=cap
 ·have hr:=run_append_room_src (P:=P) w t t ty e i ht hi g off xs.length cap _ 1 [u] rU uR
   (fun j hj=>by
    have JF:j=0:=by simpa using hj
    subst JF;rw[eW,Nat.mul_one,Nat.add_zero];exact(h6 xs.length (by omega)).1)
   (fun j hj=>by
    have JF:j=0:=by simpa using hj
    subst JF;rw[eW,Nat.mul_one,Nat.add_zero];exact(h6 xs.length (by omega)).2)
  rw[eW,Nat.mul_one] at hr;have rH:=World.cell?_setCells_in g [u] (off+xs.length) w (fun j hj=>by
   have JF:j=0:=by simpa using hj
   subst JF;rw[Nat.add_zero];exact(h6 xs.length (by omega)).1) 0 (by simp)
  rw[Nat.add_zero] at rH;have hb:Below base w (w.setCells g (off+xs.length) [u]):=(Below.refl base w).setCell (p:=⟨g,off+xs.length,none⟩) h2 u;have gH:∀j,j≠xs.length->(w.setCells g (off+xs.length) [u]).cell? ⟨g,off+j,none⟩=w.cell? ⟨g,off+j,none⟩:=fun j hj=>World.cell?_setCells_out g [u] (off+xs.length) w _ (fun _ _=>by simp only[List.length_singleton];omega);refine⟨_,_,hr,⟨g,off,cap,by rw[jO];rfl,h2,jJ h3 hb.size,by rw[jO];simpa using uR,h5,fun j hj=>⟨?_,?_⟩,fun j x hx=>?_⟩,hb,?_⟩
  ·by_cases hje:j=xs.length
   ·subst hje;rw[rH];rfl
   ·rw[gH j hje];exact(h6 j hj).1
  ·rw[World.frozen?_setCells];exact(h6 j hj).2
  ·by_cases hje:j=xs.length
   ·subst hje
    rw[rH];simp at hx;rw[<-hx];rfl
   ·have hl:j<xs.length:=by have:=(c_.1 hx).1;rw[jO,List.length_singleton] at this;omega
    rw[gH j hje];rw[yV hl] at hx;exact h7 j x hx
  ·intro g' off' n' cap' e
   injection e with e _ _;injection e with e;injection e with e _;subst e;exact oW (p:=⟨g,off+xs.length,none⟩) (World.grownBy.refl w (some g)) (.inl rfl) u
 ·have hold:(Builtin.firstCells i.size xs.length (.slice (some ⟨g,off,none⟩) xs.length cap)).run P w.drew=.ok xs.toArray w.drew:=
   run_firstCells_some w.drew i.size xs.length ⟨g,off,none⟩ xs.length cap xs (by rw[eW,Nat.mul_one]) (fun j x hx=>by rw[Addr.add_lit];exact h7 j x hx)
  have hr:=run_append_grow_src (P:=P) w t t ty e i z ht hi hz (some ⟨g,off,none⟩) xs.length cap xs hold _ 1 [u] rU (by omega) (by omega)
   (growslice_fits_wide (by omega) (eN (Nat.mul_le_mul_left _ sV) (by omega)))
  have LB:=grownCap_ge w (xs.length+1) cap e;have JI:grownCap w (xs.length+1) cap e<=maxLen:=grownCap_le_maxLen w (xs.length+1) cap e (by simp only[maxLen];omega);generalize grownCap w (xs.length+1) cap e=gc at *;have eA:=aD.new w.drew e ((xs++[u]).toArray++Builtin.zeroCells z.cells (gc-(xs.length+1)));have gP:((xs++[u]).toArray++Builtin.zeroCells z.cells (gc-(xs.length+1))).size=gc:=by
   rw[Array.size_append,size_zeroCells,zJ];simp only[List.size_toArray,jO,List.length_singleton];omega
  have hb:Below base w (w.drew.alloc (.cells ((xs++[u]).toArray++Builtin.zeroCells z.cells (gc-(xs.length+1))) e)):=(aS (Below.refl base w) 1).alloc cP _;refine⟨_,_,hr,⟨w.heap.size,0,gc,by rw[jO];rfl,cP,by simp,by rw[jO];simpa using LB,JI,fun j hj=>?_,fun j x hx=>?_⟩,hb,fun g' _ _ _ _=>MF (oX (World.grownBy.refl w (some g')) 1) _⟩
  ·rw[Nat.zero_add]
   refine⟨?_,eA.frozen j⟩;have:=eA.cell j;rw[show w.drew.heap.size=w.heap.size from rfl] at this;rw[this,Array.getElem?_eq_getElem (by omega)];rfl
  ·rw[Nat.zero_add]
   have:=eA.cell j;rw[show w.drew.heap.size=w.heap.size from rfl] at this;have hl:=(c_.1 hx).1;rw[this,Array.getElem?_append_left (by simpa using hl)];simpa using hx
theorem pE{P:Program}(w:Wo){ops:Array Oper}{rest:List Oper}{o:Oper}{a:Act}{Q:Exit->Act->World->Prop}(C4:o.guard=none)(s x:Operand)(t:TypeId)(ho:o.op=.call { callee:=.builtin .append,args:=#[s,x],argTypes:=#[t,t] })(base:Nat)(e:TypeId)(i:TypeInfo)(z:Value)(ht:P.underlying t=some (.slice e))(hi:P.info? e=some i)(hz:i.zero=some z)(eW:i.size=1)(sV:i.bytes<=16)(zJ:z.cells.size=1)(v:Value)(xs:List Value)(hs:a.eval s=v)(h:Qu w base v xs)(ad:Addr)(c:Nat)(u:Value)(hx:a.eval x=.slice (some ad) 1 c)(hu:w.cell? ad=some u)(h1:u.oneCell'=true)(ha:ad.spot=none)(d5:xs.length<=1000000)(cP:base<=w.heap.size)(hk:∀v' w',Qu w' base v' (xs++[u])->Below base w w'->wpList P ops Q rest (a.put o.dst v') w'):wpList P ops Q (o::rest) a w:=by
 obtain⟨v',w',hr,h2,h3,_⟩:=FH (P:=P) w base t o.type e i z ht hi hz eW sV zJ v xs h ad c u hu h1 ha d5 cP;refine wpList_plain C4 fun _ hK=>?_;unfold Oper.wp execOp;simp only[ho,resolve,invoke,builtin,Sem.run_bind,Sem.run_pure,Result.andThen_ok,List.map_toArray,List.map_cons,List.map_nil,hs,hx,hr];exact hK _ _ (hk v' w' h2 h3)
end
section
open Go.ChangeShapes Go.WideShapes Go.ChangeAt Go.RowKit Go.Joins Go.Deep
attribute [local go_sem ↓] aE
attribute [local go_sem] aJ aI aL aX
open Go.RowKit in
theorem FC{P:Program}{ops:Array Oper}{o:Oper}{a:Act}{w:Wo}{K:Act->World->Prop}{Q:Exit->Act->World->Prop}{E:Prop}(q:Nat)(hq:o.dst=some q)(C4:o.guard=none)(d s:Operand)(dT sT:TypeId)(ho:o.op=.call { callee:=.builtin .copy,args:=#[d,s],argTypes:=#[dT,sT] })(elem:TypeId)(hu:P.underlying dT=some (.slice elem))(gP:(P.info? elem).map (·.size)=some 1)(dp sp:OA)(dLen dCap sLen sCap:Nat)(hd:a.eval d=.slice dp dLen dCap)(hs:a.eval s=.slice sp sLen sCap)(g off:Nat)(cur:List Value)(t:TypeId)(hg:w.heap[g]?=some (.cells cur.toArray t (0,0)))(cs:List Value)(hn:cs.length=Nat.min sLen dLen)(MX:0<cs.length->dp=some ⟨g,off,none⟩/\∃ad,sp=some ad/\∀j v,cs[j]?=some v->w.cell? (ad.add j)=some v)(rW:off+cs.length<=cur.length)(h1:∀v∈cs,v.oneCell'=true)(B:Nat)(w0:Wo)(hb:Below B w0 w)(hBg:B<=g)(h:∀w',Hid (w'.heap[g]?=some (.cells (splice cur off cs).toArray t (0,0)))->Below B w0 w'->K (a.put (some q) (goInt cs.length)) w'):if Region.wanted o (yielded ops a.tmps)=true then Oper.wp P o a w K Q else E:=
 step_copy_splice C4 d s dT sT ho elem hu gP dp sp dLen dCap sLen sCap hd hs g off cur t hg cs hn MX rW h1 B w0 hb hBg (by rw[hq];exact h)
namespace M64
variable {A : OA} {B N base c e g i j k n p r s size u : Nat} {M0 : List (List Rat)} {R a b row : List Rat} {d f x : Rat} {m : Int} {out : List Int} {piv : List Nat} {v : Value} {w w' : World} {xs : List Value}
theorem maskN(a:Nat)(ha:a<18446744073709551616):bits .and .u64 (a:Int) 4294967295=((a % 4294967296:Nat):Int):=by
 have h:=Go.bits_and_u64_nat a 4294967295 ha (by omega);have e:a &&& 4294967295=a % 4294967296:=Nat.and_two_pow_sub_one_eq_mod a 32;rw[e] at h;exact h
theorem divN(a:Nat):(a:Int) / 4294967296=((a / 4294967296:Nat):Int):=by omega
theorem mulN(a b:Nat):(a:Int)*(b:Int)=((a*b:Nat):Int):=(Int.natCast_mul a b).symm
theorem addN(a b:Nat):(a:Int)+(b:Int)=((a+b:Nat):Int):=(Int.natCast_add a b).symm
theorem wrapN(a:Nat)(ha:a<18446744073709551616):IntKind.u64.wrap (a:Int)=(a:Int):=by rw[IntKind.wrap_u64];omega
theorem wrapM(a:Nat):IntKind.u64.wrap (a:Int)=((a % 18446744073709551616:Nat):Int):=by rw[IntKind.wrap_u64];omega
end M64
theorem RC(x y:Nat)(hx:x<18446744073709551616)(hy:y<18446744073709551616)(w:Wo):Calls Tryz.prog 127 #[.int .u64 x,.int .u64 y] w fun e w'=>e=.returned (.tuple #[.int .u64 ((x*y / 18446744073709551616:Nat):Int),.int .u64 ((x*y % 18446744073709551616:Nat):Int)])/\w=w':=by
 obtain⟨bd,bt,bw,hhi⟩:=Lib.mul64_hi x y hx hy;have ba:=Lib.half_mul_le (a:=x / 4294967296) (b:=y / 4294967296) (by omega) (by omega);have bb:=Lib.half_mul_le (a:=x / 4294967296) (b:=y % 4294967296) (by omega) (by omega);have bc:=Lib.half_mul_le (a:=x % 4294967296) (b:=y / 4294967296) (by omega) (by omega);have ba':x / 4294967296*(y / 4294967296)<18446744073709551616:=by omega
 have bb':x / 4294967296*(y % 4294967296)<18446744073709551616:=by omega
 have bc':x % 4294967296*(y / 4294967296)<18446744073709551616:=by omega
 have bh1:x / 4294967296*(y / 4294967296)+(x / 4294967296*(y % 4294967296)+x % 4294967296*(y % 4294967296) / 4294967296) / 4294967296<18446744073709551616:=by omega
 have bh:x / 4294967296*(y / 4294967296)+(x / 4294967296*(y % 4294967296)+x % 4294967296*(y % 4294967296) / 4294967296) / 4294967296+((x / 4294967296*(y % 4294967296)+x % 4294967296*(y % 4294967296) / 4294967296) % 4294967296+x % 4294967296*(y / 4294967296)) / 4294967296<18446744073709551616:=by omega
 go_enter Tryz.func127,Tryz.ntmps127
 go_wp2
 simp only[M64.maskN x hx,M64.maskN y hy,M64.divN,M64.mulN,M64.addN,M64.wrapN _ bd,M64.wrapN _ bb',M64.wrapN _ bt,M64.maskN _ bt,M64.wrapN _ bc',M64.wrapN _ bw,M64.wrapN _ ba',M64.wrapN _ bh1,M64.wrapN _ bh,M64.wrapM (x*y)];rw[hhi];go_ret2;exact⟨rfl,rfl⟩
theorem OS(x y:Nat)(hx:x<18446744073709551616)(hy:y<18446744073709551616)(w:Wo):Calls Tryz.prog 92 #[.int .u64 x,.int .u64 y] w fun e w'=>e=.returned (.tuple #[.int .u64 ((x*y / 18446744073709551616:Nat):Int),.int .u64 ((x*y % 18446744073709551616:Nat):Int)])/\w=w':=by
 go_enter Tryz.func92,Tryz.ntmps92
 go_wp2_with fail
 refine(RC x y hx hy w).mono ?_;rintro e w' ⟨rfl,rfl⟩
 go_wp2_with fail
 go_ret2;exact⟨rfl,rfl⟩
theorem JA:(Tryz.prog.info? 3).map (fun i=>(i.zero,i.size,i.bytes))=some (some (.int .i64 0),1,8):=by kernel_rfl
theorem IJ:(Tryz.prog.info? 3).map (·.size)=some 1:=by kernel_rfl
theorem LY(v:Int)(b:Nat)(n:Nat)(w:Wo)(hv:w.cell? ⟨b,0,none⟩=some (.int .i64 v))(hn:n<=1000):Calls Tryz.prog 146 #[.slice (some ⟨b,0,none⟩) 1 1,.int .i64 n] w fun e w'=>∃g,e=.returned (.slice (some ⟨g,0,none⟩) n n)/\w.heap.size<=g/\aD w' g 3 (List.replicate n (.int .i64 v)).toArray/\Below w.heap.size w w':=by
 have NB:=World.block_lt_of_cell? w ⟨b,0,none⟩ hv;have tO:∀w:World,(Instr.makeSlice 47 (.int .i64 (n:Int)) (.int .i64 (n:Int))).run Tryz.prog w=.ok (.slice (some ⟨w.heap.size,0,none⟩) n n) (w.alloc (.cells (madeCells #[.int .i64 0] n) 3)):=
  fun w=>run_make_row' (P:=Tryz.prog) 47 3 (.int .i64 0) 8 Tryz.underlying47 JA rfl .i64 .i64 n (by omega) (by omega) w
 have hHV:=lH hv;clear hv;go_enter Tryz.func146,Tryz.ntmps146
 go_wp2_with fail
 refine(OS 1 n (by omega) (by omega) _).mono ?_;rw[show(1*n / 18446744073709551616:Nat)=0 from by omega,show(1*n % 18446744073709551616:Nat)=n from by omega];rintro e w' ⟨rfl,rfl⟩;have XP:(madeCells #[.int .i64 0] n).toList.length=n:=by simp[size_madeCells]
 have P1:=lH XP;clear XP;have TU:=vM w (.cells (madeCells #[.int .i64 0] n) 3);have eA:(w.alloc (.cells (madeCells #[.int .i64 0] n) 3)).heap[w.heap.size]?=some (.cells (madeCells #[.int .i64 0] n).toList.toArray 3 (0,0)):=by simpa using heap_alloc_new w _
 have rU:(w.alloc (.cells (madeCells #[.int .i64 0] n) 3)).cell? ⟨b,0,none⟩=some (.int .i64 v):=(World.cell?_alloc_lt _ _ _ NB).trans hHV.out;obtain⟨cI,aFY,aFt⟩:=eR TU eA rU;have aC6:∀j u,(List.replicate (min 1 n) (.int .i64 v))[j]?=some u->(w.alloc (.cells (madeCells #[.int .i64 0] n) 3)).cell? ((⟨b,0,none⟩:Addr).add j)=some u:=fun j u hu=>by
  have hj:=(c_.1 hu).1;simp at hj;have:j=0:=by omega
  subst this;rw[List.getElem?_replicate,if_pos (by omega)] at hu;injection hu with hu;subst hu;exact aFt.o
 have aJv:=lH aC6;clear TU eA rU aC6
 go_wp2_with (refine wpList_copy_splice rfl (.tmp 31) (.tmp 32) 47 47 rfl 3 Tryz.underlying47 IJ (some ⟨w.heap.size,0,none⟩) (some ⟨b,0,none⟩) n n 1 1 rfl rfl w.heap.size 0 (madeCells #[.int .i64 0] n).toList 3 aFY.o (List.replicate (min 1 n) (.int .i64 v)) (by simp) (fun _=>⟨rfl,_,rfl,aJv.o⟩) (by simp;have:=P1.o;simp at this;omega) (fun u hu=>by rw[(List.mem_replicate.1 hu).2];rfl) w.heap.size w cI.o lR ?_)
 intro w2 bV k2;have pX:(splice (madeCells #[.int .i64 0] n).toList 0 (List.replicate (min 1 n) (.int .i64 v))).length=n/\∀i,i<min 1 n->(splice (madeCells #[.int .i64 0] n).toList 0 (List.replicate (min 1 n) (.int .i64 v)))[i]?=some (.int .i64 v):=by
  refine⟨by unfold splice;have:=P1.o;simp at this ⊢;omega,fun i hi=>?_⟩;unfold splice;rw[List.take_zero,List.nil_append,yV (by simpa using hi),List.getElem?_replicate,if_pos hi]
 generalize splice (madeCells #[.int .i64 0] n).toList 0 (List.replicate (min 1 n) (.int .i64 v))=cur0 at bV pX;obtain⟨dB,rN,TA⟩:=eR bV.out k2 pX;have aEz:min 1 n<=n:=Nat.min_le_right _ _;have XN:0<n->0<min 1 n:=fun h=>by omega
 clear bV k2 pX tO;generalize min 1 n=k0 at *
 go_wp2_with fail
 go_loopw [8] (fun i wr=>∃k:Nat,k<=n/\i=.int .i64 k/\(0<n->0<k)/\Below w.heap.size w wr/\∃cur:List Value,cur.length=n/\(∀i,i<k->cur[i]?=some (.int .i64 v))/\Hid (wr.heap[w.heap.size]?=some (.cells cur.toArray 3 (0,0)))) (fun i _=>n-(intOf i).toNat)
 case atStart=>exact⟨k0,aEz,rfl,XN,rN.o,cur0,TA.o.1,TA.o.2,dB⟩
 case round=>
  obtain⟨k,hk,rfl,hkp,X4,cur,uV,X0,eA⟩:=hrel;obtain⟨HCI,kB,HCL⟩:=eR X0 X4 uV;clear X0 X4 uV;by_cases aR:k<n
  ·have aIh:0<k:=hkp (by omega)
   clear hkp;have rU:∀j u,(List.replicate (min k (n-k)) (.int .i64 v))[j]?=some u->wr.drew.cell? ((⟨w.heap.size,0,none⟩:Addr).add j)=some u:=fun j u hu=>by
    have hj:=(c_.1 hu).1;simp at hj;rw[List.getElem?_replicate,if_pos hj] at hu;injection hu with hu;subst hu;have h1:=HCI.o j (by omega);have h2:=cell_of_row wr w.heap.size j cur.toArray 3 (0,0) eA.out;rw[show((⟨w.heap.size,0,none⟩:Addr).add j)=⟨w.heap.size,j,none⟩ from by unfold Addr.add;split<;>simp_all];show wr.cell? _=_;rw[h2];simpa using h1
   have Z8:=lH rU;clear rU;have hI1:(k:Int)<=(n:Int):=by omega
   have hI2:=lZ k;have aMg:min k (n-k)<=n-k:=Nat.min_le_right _ _;have aEx:0<min k (n-k):=by omega
   have hw1:IntKind.i64.wrap ((k:Int)+((min k (n-k):Nat):Int))=(k:Int)+((min k (n-k):Nat):Int):=IntWalk.i64_in _ (by omega);(go_wp2_with fail)
   go_region_law (refine FC 45 rfl rfl (.tmp 41) (.tmp 44) 47 47 rfl 3 Tryz.underlying47 IJ (some ⟨w.heap.size,k,none⟩) (some ⟨w.heap.size,0,none⟩) (n-k) (n-k) k n (by simp[Act.eval,Act.put];omega) (by simp[Act.eval,Act.put]) w.heap.size k cur 3 eA.out (List.replicate (min k (n-k)) (.int .i64 v)) (by simp) (fun _=>⟨rfl,_,rfl,Z8.o⟩) (by rw[pV,HCL.o];omega) (fun u hu=>by rw[(List.mem_replicate.1 hu).2];rfl) w.heap.size w (aH kB.o) lR ?_;intro w3 eF k3)
   have hk3:(splice cur k (List.replicate (min k (n-k)) (.int .i64 v))).length=n/\∀i,i<k+min k (n-k)->(splice cur k (List.replicate (min k (n-k)) (.int .i64 v)))[i]?=some (.int .i64 v):=by
    have uV:=HCL.o;refine⟨by unfold splice;simp;omega,fun i hi=>?_⟩;unfold splice;by_cases uU:i<k
    ·rw[yV (by simp;omega),List.getElem?_take,if_pos uU]
     exact HCI.o i uU
    ·rw[DK (by simp;omega),yV (by simp;omega),List.getElem?_replicate,if_pos (by simp;omega)]
   obtain⟨KX,aFO,aFZ⟩:=eR hk3 k3 eF.out;have aEw:k+min k (n-k)<=n:=by omega
   clear hk3 k3 eF;generalize splice cur k (List.replicate (min k (n-k)) (.int .i64 v))=cur3 at *;generalize min k (n-k)=q at *;(go_wp2_with fail);go_roundw
   case rel=>exact⟨k+q,aEw,by go_num,fun _=>by omega,aFO.o,cur3,KX.o.1,KX.o.2,aFZ⟩
   case measure=>simp[intOf];omega
  ·have FX:k=n:=by omega
   subst FX;(go_wp2_with fail);go_ret;refine⟨w.heap.size,rfl,lR,?_,kB.o⟩;have hc:cur=List.replicate k (.int .i64 v):=by
    apply List.ext_getElem?;intro i;by_cases hi:i<k
    ·rw[HCI.o i hi,List.getElem?_replicate,if_pos hi]
    ·rw[List.getElem?_eq_none (by have:=HCL.o;omega),List.getElem?_eq_none (by simp;omega)]
   have:=eA.out;rw[hc] at this;exact this
end
section
def vf(l:List Rat):Fn:=fun i=>l.getD i 0
def yW(M:List (List Rat)):List Fn:=M.map vf
theorem sA{l:List Rat}(h:l[i]?=some x):vf l i=x:=by unfold vf;rw[dQ,h];rfl
theorem bZ{l:List Rat}(h:i<l.length):l[i]?=some (vf l i):=by unfold vf;rw[dQ,jP h];rfl
theorem wA{M:List (List Rat)}{f:Fn}(h:(yW M)[i]?=some f):∃a,M[i]?=some a/\f=vf a:=by
 unfold yW at h;rw[pL] at h;obtain⟨a,ha,he⟩:=Option.map_eq_some_iff.1 h;exact⟨a,ha,he.symm⟩
theorem kD{M:List (List Rat)}(h:M[i]?=some a):(yW M)[i]?=some (vf a):=by unfold yW;rw[pL,h];rfl
theorem qZ(M:List (List Rat)):(yW M).length=M.length:=by unfold yW;rw[kJ]
theorem oY{M:List (List Rat)}{x:Fn}:TW n (yW M) x<->∀(i:Nat)(a:List Rat),M[i]?=some a->a_ n (vf a) x=0:=by
 constructor
 ·intro h i a ha
  exact h _ (cS (kD ha))
 ·intro h f hf
  obtain⟨i,hi⟩:=List.mem_iff_getElem?.1 hf;obtain⟨a,ha,rfl⟩:=wA hi;exact h i a ha
def f_(d:Rat)(row:List Rat):List Rat:=row.map fun x=>x / d
def rQ(f:Rat)(R row:List Rat):List Rat:=List.zipWith (fun x y=>x-f*y) row R
theorem iL(d:Rat)(row:List Rat):(f_ d row).length=row.length:=by unfold f_;rw[kJ]
theorem IB(h:R.length=row.length):(rQ f R row).length=row.length:=by unfold rQ;rw[List.length_zipWith,h,Nat.min_self]
theorem zL(h:i<row.length):vf (f_ d row) i=vf row i / d:=by
 refine sA ?_;unfold f_;rw[pL,bZ h];rfl
theorem y9(h:i<row.length)(hl:R.length=row.length):vf (rQ f R row) i=vf row i-f*vf R i:=by
 refine sA ?_;unfold rQ;rw[List.getElem?_zipWith,bZ h,bZ (by rw[hl];exact h)]
def cA(M:List (List Rat))(r p k:Nat):List (List Rat):=(M.set p (M.getD r [])).set r (f_ (vf (M.getD p []) k) (M.getD p []))
def dJ(M:List (List Rat))(r p k:Nat):List (List Rat):=(cA M r p k).mapIdx fun i row=>if i=r then row else rQ (vf row k) (f_ (vf (M.getD p []) k) (M.getD p [])) row
theorem qJ(M:List (List Rat))(r p k:Nat):(cA M r p k).length=M.length:=by unfold cA;rw[jI,jI]
theorem yA(M:List (List Rat))(r p k:Nat):(dJ M r p k).length=M.length:=by unfold dJ;rw[List.length_mapIdx,qJ]
section
variable {M:List (List Rat)} {N r p k:Nat} {Rp Rr:List Rat}
theorem DW(hr:M[r]?=some Rr)(hp:M[p]?=some Rp):(cA M r p k)[r]?=some (f_ (vf Rp k) Rp):=by
 unfold cA;rw[List.getElem?_set_self (by rw[jI];exact(c_.1 hr).1),dQ,hp];rfl
theorem VJ(hr:M[r]?=some Rr)(hp:M[p]?=some Rp)(hrp:r≠p):(cA M r p k)[p]?=some Rr:=by
 unfold cA;rw[List.getElem?_set_ne hrp,List.getElem?_set_self (c_.1 hp).1,dQ,hr];rfl
theorem FK(h1:i≠r)(h2:i≠p):(cA M r p k)[i]?=M[i]?:=by
 unfold cA;rw[List.getElem?_set_ne (fun e=>h1 e.symm),List.getElem?_set_ne (fun e=>h2 e.symm)]
theorem uA(hr:M[r]?=some Rr)(hp:M[p]?=some Rp)(hi:i≠r)(h:(cA M r p k)[i]?=some a):∃s,M[s]?=some a/\s≠p/\(s=i\/(i=p/\s=r)):=by
 by_cases XS:i=p
 ·subst XS
  rw[VJ hr hp (fun e=>hi e.symm)] at h;injection h with h;subst h;exact⟨r,hr,fun e=>hi e.symm,.inr ⟨rfl,rfl⟩⟩
 ·rw[FK hi XS] at h
  exact⟨i,h,XS,.inl rfl⟩
theorem BS{a':List Rat}(hp:M[p]?=some Rp)(h:(dJ M r p k)[i]?=some a'):∃a,(cA M r p k)[i]?=some a/\a'=if i=r then a else rQ (vf a k) (f_ (vf Rp k) Rp) a:=by
 unfold dJ at h;rw[List.getElem?_mapIdx] at h;obtain⟨a,ha,he⟩:=Option.map_eq_some_iff.1 h;refine⟨a,ha,?_⟩;rw[<-he];have:M.getD p []=Rp:=by rw[dQ,hp];rfl
 rw[this]
theorem PG(hp:M[p]?=some Rp)(h:(cA M r p k)[i]?=some a):(dJ M r p k)[i]?=some (if i=r then a else rQ (vf a k) (f_ (vf Rp k) Rp) a):=by
 unfold dJ;rw[List.getElem?_mapIdx,h];have:M.getD p []=Rp:=by rw[dQ,hp];rfl
 rw[this];rfl
theorem DV(hw:∀a∈M,a.length=N)(hr:M[r]?=some Rr)(hp:M[p]?=some Rp):∀a∈cA M r p k,a.length=N:=by
 intro a ha;obtain⟨i,hi⟩:=List.mem_iff_getElem?.1 ha;by_cases yL:i=r
 ·subst yL
  rw[DW hr hp] at hi;injection hi with hi;subst hi;rw[iL];exact hw _ (cS hp)
 ·obtain⟨s,hs,_⟩:=uA hr hp yL hi
  exact hw _ (cS hs)
theorem EU(hw:∀a∈M,a.length=N)(hr:M[r]?=some Rr)(hp:M[p]?=some Rp):∀a∈dJ M r p k,a.length=N:=by
 intro a ha;obtain⟨i,hi⟩:=List.mem_iff_getElem?.1 ha;obtain⟨b,hb,rfl⟩:=BS hp hi;have h1:=DV (k:=k) hw hr hp b (cS hb);have h2:=hw _ (cS hp);split
 ·exact h1
 ·rw[IB (by rw[iL,h1,h2]),h1]
theorem J2(h:n<=row.length)(x:Fn):a_ n (vf (f_ d row)) x=(1 / d)*a_ n (vf row) x:=by
 rw[<-EL];exact s_ (fun i hi=>by rw[zL (by omega)];grind) fun _ _=>rfl
theorem IC(h:n<=row.length)(hl:R.length=row.length)(x:Fn):a_ n (vf (rQ f R row)) x=a_ n (vf row) x+(-f)*a_ n (vf R) x:=by
 rw[<-EL,<-SH];exact s_ (fun i hi=>by rw[y9 (by omega) hl];grind) fun _ _=>rfl
theorem aCa(hn:n<=N)(hw:∀a∈M,a.length=N)(hr:M[r]?=some Rr)(hp:M[p]?=some Rp)(hd:vf Rp k≠0)(x:Fn):TW n (yW (dJ M r p k)) x<->TW n (yW M) x:=by
 have tN:=hw _ (cS hp);rw[oY,oY]
 constructor
 ·intro h
  have hR:a_ n (vf (f_ (vf Rp k) Rp)) x=0:=by
   have:=h r _ (PG hp (DW hr hp));rwa[if_pos rfl] at this
  have hP:a_ n (vf Rp) x=0:=by
   rw[J2 (by omega)] at hR;generalize vf Rp k=d at *;grind
  intro i a ha;by_cases XS:i=p
  ·subst XS
   rw[hp] at ha;injection ha with ha;subst ha;exact hP
  ·have DB:=hw _ (cS ha)
   have key:∀s,s≠r->(cA M r p k)[s]?=some a->a_ n (vf a) x=0:=fun s hs hsa=>by
    have:=h s _ (PG hp hsa);rw[if_neg hs,IC (by omega) (by rw[iL,tN,DB]),hR,Rat.mul_zero,Rat.add_zero] at this;exact this
   by_cases yL:i=r
   ·subst yL
    rw[hr] at ha;injection ha with ha;subst ha;exact key p (fun e=>XS e.symm) (VJ hr hp XS)
   ·exact key i yL (by rw[FK yL XS];exact ha)
 ·intro h i a' F1
  have hR:a_ n (vf (f_ (vf Rp k) Rp)) x=0:=by rw[J2 (by omega),h p Rp hp,Rat.mul_zero]
  obtain⟨a,ha,rfl⟩:=BS hp F1;by_cases yL:i=r
  ·subst yL
   rw[if_pos rfl];rw[DW hr hp] at ha;injection ha with ha;subst ha;exact hR
  ·rw[if_neg yL]
   obtain⟨s,hs,_⟩:=uA hr hp yL ha;have DB:=hw _ (cS hs);rw[IC (by omega) (by rw[iL,tN,DB]),h s a hs,hR,Rat.mul_zero,Rat.add_zero]
theorem aCb(E:CH (yW M) piv k)(hw:∀a∈M,a.length=N)(hk:k<N)(RV:r=piv.length)(hr:M[r]?=some Rr)(hp:M[p]?=some Rp)(hrp:r<=p)(hd:vf Rp k≠0):CH (yW (dJ M r p k)) (piv++[k]) (k+1):=by
 have tN:=hw _ (cS hp);have hRz:∀j,j<k->vf (f_ (vf Rp k) Rp) j=0:=fun j hj=>by
  rw[zL (by omega),E.rest p _ (kD hp) (by omega) j hj];exact Rat.div_def 0 _▸Rat.zero_mul _
 have hR1:vf (f_ (vf Rp k) Rp) k=1:=by
  rw[zL (by omega)];generalize vf Rp k=d at *;grind
 have row:∀i a',(dJ M r p k)[i]?=some a'->i≠r->∃s a,M[s]?=some a/\(s=i\/(i=p/\s=r))/\vf a' k=0/\∀j,j<k->vf a' j=vf a j:=fun i a' F1 yL=>by
  obtain⟨a,ha,rfl⟩:=BS hp F1;obtain⟨s,hs,_,h2⟩:=uA hr hp yL ha;have DB:=hw _ (cS hs);refine⟨s,a,hs,h2,?_,fun j hj=>?_⟩
  ·rw[if_neg yL,y9 (by omega) (by rw[iL,tN,DB]),hR1];grind
  ·rw[if_neg yL,y9 (by omega) (by rw[iL,tN,DB]),hRz j hj];grind
 have prow:∀a',(dJ M r p k)[r]?=some a'->a'=f_ (vf Rp k) Rp:=fun a' F1=>by
  obtain⟨a,ha,rfl⟩:=BS hp F1;rw[if_pos rfl];rw[DW hr hp] at ha;injection ha with ha;exact ha.symm
 have pv:∀t q,(piv++[k])[t]?=some q->(t<piv.length/\piv[t]?=some q/\q<k)\/(t=r/\q=k):=fun t q h=>by
  rcases Nat.lt_or_ge t piv.length with aR | LB
  ·rw[yV aR] at h
   exact .inl ⟨aR,h,E.lt q (cS h)⟩
  ·rw[DK LB] at h
   have:t-piv.length=0:=by
    have:=(c_.1 h).1;simp at this;omega
   rw[this] at h;simp at h;exact .inr ⟨by omega,h.symm⟩
 have hrM:=(c_.1 hr).1;refine⟨?_,?_,?_,?_,?_,?_,?_⟩
 ·rw[qZ,yA,jO,List.length_singleton];omega
 ·rw[List.pairwise_append]
  exact⟨E.inc,List.pairwise_singleton _ _,fun a ha b hb=>by rw[List.mem_singleton.1 hb];exact E.lt a ha⟩
 ·intro q hq
  rcases List.mem_append.1 hq with h | h
  ·have:=E.lt q h;omega
  ·rw[List.mem_singleton.1 h];omega
 ·intro t q f h1 h2
  obtain⟨a',F1,rfl⟩:=wA h2;rcases pv t q h1 with⟨aR,hq,hqk⟩ | ⟨rfl,rfl⟩
  ·obtain⟨s,a,hs,hsi,_,hj⟩:=row t a' F1 (by omega)
   rw[hj q hqk];rcases hsi with rfl | ⟨e1,e2⟩
   ·exact E.one s q _ hq (kD hs)
   ·omega
  ·rw[prow a' F1];exact hR1
 ·intro t q i f h1 h2 hit
  obtain⟨a',F1,rfl⟩:=wA h2;rcases pv t q h1 with⟨aR,hq,hqk⟩ | ⟨rfl,rfl⟩
  ·by_cases yL:i=r
   ·subst yL
    rw[prow a' F1];exact hRz q hqk
   ·obtain⟨s,a,hs,hsi,_,hj⟩:=row i a' F1 yL
    rw[hj q hqk];refine E.zer t q s _ hq (kD hs) ?_;rcases hsi with rfl | ⟨e1,e2⟩
    ·exact hit
    ·omega
  ·obtain⟨s,a,_,_,h0,_⟩:=row i a' F1 hit
   exact h0
 ·intro t q f h1 h2 j hj
  obtain⟨a',F1,rfl⟩:=wA h2;rcases pv t q h1 with⟨aR,hq,hqk⟩ | ⟨rfl,rfl⟩
  ·obtain⟨s,a,hs,hsi,_,hjj⟩:=row t a' F1 (by omega)
   rw[hjj j (by omega)];rcases hsi with rfl | ⟨e1,e2⟩
   ·exact E.low s q _ hq (kD hs) j hj
   ·omega
  ·rw[prow a' F1];exact hRz j hj
 ·intro i f h2 hi j hj
  obtain⟨a',F1,rfl⟩:=wA h2;rw[jO,List.length_singleton] at hi;obtain⟨s,a,hs,hsi,h0,hjj⟩:=row i a' F1 (by omega);by_cases hjk:j=k
  ·subst hjk;exact h0
  ·rw[hjj j (by omega)]
   refine E.rest s _ (kD hs) ?_ j (by omega);rcases hsi with rfl | ⟨e1,e2⟩<;>omega
theorem U1(E:CH (yW M) piv k)(h:∀i a,M[i]?=some a->piv.length<=i->vf a k=0):CH (yW M) piv (k+1):=
 ⟨E.le,E.inc,fun p hp=>Nat.lt_succ_of_lt (E.lt p hp),E.one,E.zer,E.low,fun i f hf hi j hj=>by
  obtain⟨a,ha,rfl⟩:=wA hf;by_cases hjk:j=k
  ·subst hjk;exact h i a ha hi
  ·exact E.rest i _ (kD ha) hi j (by omega)⟩
theorem YC(E:CH (yW M) piv k)(h:piv.length=M.length)(hk:k<=n):CH (yW M) piv n:=
 ⟨E.le,E.inc,fun p hp=>jJ (E.lt p hp) hk,E.one,E.zer,E.low,fun i f hf hi j hj=>by
  have:=(c_.1 hf).1;rw[qZ] at this;omega⟩
theorem QN(M:List (List Rat)):CH (yW M) [] 0:=
 ⟨Nat.zero_le _,List.Pairwise.nil,fun p hp=>(by cases hp),fun t p a h=>by simp at h,fun t p i a h=>by simp at h,fun t p a h=>by simp at h,fun i a h hi j hj=>by omega⟩
end
def kN(M:List (List Rat))(r k:Nat):Nat:=r+(M.drop r).findIdx fun row=>vf row k != 0
def kM:Nat->List (List Rat)->List Nat->Nat->List (List Rat)×List Nat
 | 0,M,piv,_=>(M,piv)
 | s+1,M,piv,k=>if piv.length<M.length then(if kN M piv.length k=M.length then kM s M piv (k+1) else kM s (dJ M piv.length (kN M piv.length k) k) (piv++[k]) (k+1)) else(M,piv)
def jK(M:List (List Rat))(cols:Nat):List (List Rat)×List Nat:=kM cols M [] 0
def aDY(M:List (List Rat)):Nat:=match M with | []=>0 | a::_=>a.length
def aHj(M:List (List Rat)):Nat:=(jK M (aDY M)).2.length
theorem zD{M:List (List Rat)}(h:r<=M.length):r<=kN M r k/\kN M r k<=M.length:=by
 unfold kN;have h1:(M.drop r).findIdx (fun row=>vf row k != 0)<=(M.drop r).length:=List.findIdx_le_length;rw[G5] at h1;omega
theorem Q5{M:List (List Rat)}(h:r<=M.length)(hp:kN M r k=M.length):∀(i:Nat)(a:List Rat),M[i]?=some a->r<=i->vf a k=0:=by
 intro i a hi hri;have aR:=(c_.1 hi).1;have h2:(M.drop r).findIdx (fun row=>vf row k != 0)=(M.drop r).length:=by unfold kN at hp;rw[G5];omega
 have h3:=List.findIdx_eq_length.1 h2 a (cS (i:=i-r) (by rw[List.getElem?_drop];rw[show r+(i-r)=i from by omega];exact hi));simpa using h3
theorem rB{M:List (List Rat)}(h:r<=M.length)(hp:kN M r k≠M.length):∃a,M[kN M r k]?=some a/\vf a k≠0:=by
 have h1:=zD (k:=k) h;have h2:(M.drop r).findIdx (fun row=>vf row k != 0)<(M.drop r).length:=by
  have:(M.drop r).findIdx (fun row=>vf row k != 0)<=(M.drop r).length:=List.findIdx_le_length;rw[G5] at *;unfold kN at *;omega
 have h3:=List.findIdx_getElem (p:=fun row=>vf row k != 0) (xs:=M.drop r) (w:=h2);refine⟨_,jP (by omega),?_⟩;rw[List.getElem_drop] at h3;simpa[kN] using h3
theorem IW{M:List (List Rat)}(hi:M[i]?=some a)(h1:r<=i)(h2:i<kN M r k):vf a k=0:=by
 have h3:=List.not_of_lt_findIdx (p:=fun row=>vf row k != 0) (xs:=M.drop r) (i:=i-r) (by unfold kN at h2;omega);have aR:=(c_.1 hi).1;rw[List.getElem_drop] at h3;have:M[r+(i-r)]'(by omega)=a:=by
  have e:r+(i-r)=i:=by omega
  have:=(c_.1 hi).2;simp only[e];exact this
 rw[this] at h3;simpa using h3
theorem aBl{M:List (List Rat)}(hr:r<=p)(hp:M[p]?=some a)(ha:vf a k≠0)(hb:∀(i:Nat)(b:List Rat),M[i]?=some b->r<=i->i<p->vf b k=0):kN M r k=p:=by
 have aR:=(c_.1 hp).1;have h1:=zD (M:=M) (r:=r) (k:=k) (by omega);rcases Nat.lt_trichotomy (kN M r k) p with h | h | h
 ·obtain⟨b,bG,bV⟩:=rB (M:=M) (r:=r) (k:=k) (by omega) (by omega)
  exact absurd (hb _ b bG h1.1 h) bV
 ·exact h
 ·exact absurd (IW hp hr h) ha
theorem VM{M:List (List Rat)}(hr:r<=M.length)(hb:∀(i:Nat)(b:List Rat),M[i]?=some b->r<=i->vf b k=0):kN M r k=M.length:=by
 refine Classical.byContradiction fun h=>?_;obtain⟨a,h1,h2⟩:=rB hr h;exact h2 (hb _ a h1 (zD hr).1)
structure m8 (M0 M:List (List Rat)) (N:Nat) (piv:List Nat) (k:Nat):Prop where
 ech:CH (yW M) piv k
 wid:∀a∈M,a.length=N
 ker:∀n,n<=N->∀x,TW n (yW M) x<->TW n (yW M0) x
 len:M.length=M0.length
theorem xS{M:List (List Rat)}(h:∀a∈M,a.length=N):m8 M M N [] 0:=⟨QN M,h,fun _ _ _=>Iff.rfl,rfl⟩
theorem m8.skip{M:List (List Rat)}(h:m8 M0 M N piv k)(hp:kN M piv.length k=M.length):m8 M0 M N piv (k+1):=
 ⟨U1 h.ech (Q5 (by have:=h.ech.le;rwa[qZ] at this) hp),h.wid,h.ker,h.len⟩
theorem m8.step{M:List (List Rat)}(h:m8 M0 M N piv k)(hk:k<N)(hl:piv.length<M.length)(hp:kN M piv.length k≠M.length):m8 M0 (dJ M piv.length (kN M piv.length k) k) N (piv++[k]) (k+1):=by
 obtain⟨Rp,hRp,hd⟩:=rB (qY hl) hp;obtain⟨Rr,hRr⟩:∃Rr,M[piv.length]?=some Rr:=⟨_,jP hl⟩;have h1:=zD (M:=M) (k:=k) (qY hl);exact⟨aCb h.ech h.wid hk rfl hRr hRp h1.1 hd,EU h.wid hRr hRp,fun n hn x=>(aCa hn h.wid hRr hRp hd x).trans (h.ker n hn x),(yA ..).trans h.len⟩
theorem m8.full{M:List (List Rat)}(h:m8 M0 M N piv k)(hl:¬piv.length<M.length)(hk:k<=n):m8 M0 M N piv n:=
 ⟨YC h.ech (by have:=h.ech.le;rw[qZ] at this;omega) hk,h.wid,h.ker,h.len⟩
theorem AF:∀(s:Nat) {M0 M:List (List Rat)} {N k:Nat} {piv:List Nat},m8 M0 M N piv k->k+s<=N->m8 M0 (kM s M piv k).1 N (kM s M piv k).2 (k+s)
 | 0,_,_,_,_,_,h,_=>h
 | s+1,M0,M,N,k,piv,h,hk=>by
  unfold kM;by_cases hl:piv.length<M.length
  ·rw[if_pos hl]
   by_cases hp:kN M piv.length k=M.length
   ·rw[if_pos hp]
    have:=AF s (h.skip hp) (by omega);rwa[show k+1+s=k+(s+1) from by omega] at this
   ·rw[if_neg hp]
    have:=AF s (h.step (by omega) hl hp) (by omega);rwa[show k+1+s=k+(s+1) from by omega] at this
  ·rw[if_neg hl]
   exact h.full hl (by omega)
theorem zC{M:List (List Rat)}{cols:Nat}(h:∀a∈M,a.length=N)(hc:cols<=N):m8 M (jK M cols).1 N (jK M cols).2 cols:=by
 have:=AF cols (xS h) (by omega);rwa[Nat.zero_add] at this
def Bd(B:Nat)(M:List (List Rat)):Prop:=∀a∈M,∀x∈a,bM x+1<=B
theorem Bd.mono{C:Nat}{M:List (List Rat)}(h:Bd B M)(hc:B<=C):Bd C M:=fun a ha x hx=>eN (h a ha x hx) hc
theorem Bd.at_{M:List (List Rat)}(h:Bd B M)(ha:M[i]?=some a)(hx:a[j]?=some x):bM x+1<=B:=h a (cS ha) x (cS hx)
theorem Bd.vf{M:List (List Rat)}(h:Bd B M)(ha:M[i]?=some a)(hj:j<a.length):bM (vf a j)+1<=B:=h.at_ ha (bZ hj)
section
variable {d f x:Rat} {R row:List Rat} {k i j:Nat}
def pR(d:Rat)(k j:Nat)(row:List Rat):List Rat:=row.mapIdx fun i x=>if k<=i/\i<j then x / d else x
def k7(f:Rat)(R:List Rat)(k j:Nat)(row:List Rat):List Rat:=row.mapIdx fun i x=>if k<=i/\i<j then x-f*vf R i else x
theorem J3:(pR d k j row).length=row.length:=by unfold pR;rw[List.length_mapIdx]
theorem ID:(k7 f R k j row).length=row.length:=by unfold k7;rw[List.length_mapIdx]
theorem NH:pR d k k row=row:=by
 apply List.ext_getElem?;intro i;unfold pR;rw[List.getElem?_mapIdx];cases row[i]? with
 | none=>rfl
 | some x=>simp only[Option.map_some];rw[if_neg (by omega)]
theorem LT:k7 f R k k row=row:=by
 apply List.ext_getElem?;intro i;unfold k7;rw[List.getElem?_mapIdx];cases row[i]? with
 | none=>rfl
 | some x=>simp only[Option.map_some];rw[if_neg (by omega)]
theorem aB_(h:row[j]?=some x):(pR d k j row)[j]?=some x:=by
 unfold pR;rw[List.getElem?_mapIdx,h];simp only[Option.map_some];rw[if_neg (by omega)]
theorem aA6(h:row[j]?=some x):(k7 f R k j row)[j]?=some x:=by
 unfold k7;rw[List.getElem?_mapIdx,h];simp only[Option.map_some];rw[if_neg (by omega)]
theorem SI(hk:k<=j)(h:row[j]?=some x):(pR d k j row).set j (x / d)=pR d k (j+1) row:=by
 have hj:=(c_.1 h).1;apply List.ext_getElem?;intro i;rw[List.getElem?_set,J3];unfold pR;rw[List.getElem?_mapIdx,List.getElem?_mapIdx];by_cases hi:j=i
 ·subst hi
  rw[if_pos rfl,if_pos hj,h];simp only[Option.map_some];rw[if_pos ⟨hk,by omega⟩]
 ·rw[if_neg hi]
  cases row[i]? with
  | none=>rfl
  | some y=>
   simp only[Option.map_some];by_cases h2:k<=i/\i<j
   ·rw[if_pos h2,if_pos ⟨h2.1,by omega⟩]
   ·rw[if_neg h2,if_neg (by omega)]
theorem QL(hk:k<=j)(h:row[j]?=some x):(k7 f R k j row).set j (x-f*vf R j)=k7 f R k (j+1) row:=by
 have hj:=(c_.1 h).1;apply List.ext_getElem?;intro i;rw[List.getElem?_set,ID];unfold k7;rw[List.getElem?_mapIdx,List.getElem?_mapIdx];by_cases hi:j=i
 ·subst hi
  rw[if_pos rfl,if_pos hj,h];simp only[Option.map_some];rw[if_pos ⟨hk,by omega⟩]
 ·rw[if_neg hi]
  cases row[i]? with
  | none=>rfl
  | some y=>
   simp only[Option.map_some];by_cases h2:k<=i/\i<j
   ·rw[if_pos h2,if_pos ⟨h2.1,by omega⟩]
   ·rw[if_neg h2,if_neg (by omega)]
theorem QM(h:vf R j=0):k7 f R k (j+1) row=k7 f R k j row:=by
 apply List.ext_getElem?;intro i;unfold k7;rw[List.getElem?_mapIdx,List.getElem?_mapIdx];cases row[i]? with
 | none=>rfl
 | some y=>
  simp only[Option.map_some];by_cases h2:k<=i/\i<j
  ·rw[if_pos h2,if_pos ⟨h2.1,by omega⟩]
  ·rw[if_neg h2]
   by_cases h3:i=j
   ·subst h3
    by_cases h4:k<=i/\i<i+1
    ·rw[if_pos h4,h,Rat.mul_zero,Rat.sub_eq_add_neg,Rat.neg_zero,Rat.add_zero]
    ·rw[if_neg h4]
   ·rw[if_neg (by omega)]
theorem YW(h:∀i,i<k->vf row i=0):pR d k row.length row=f_ d row:=by
 apply List.ext_getElem?;intro i;unfold pR f_;rw[List.getElem?_mapIdx,pL];cases hx:row[i]? with
 | none=>rfl
 | some x=>
  have hi:=(c_.1 hx).1;simp only[Option.map_some];by_cases hk:k<=i
  ·rw[if_pos ⟨hk,hi⟩]
  ·rw[if_neg (by omega)]
   have:=h i (by omega);rw[sA hx] at this;rw[this,Rat.div_def,Rat.zero_mul]
theorem UU(hl:R.length=row.length)(h:∀i,i<k->vf R i=0):k7 f R k row.length row=rQ f R row:=by
 apply List.ext_getElem?;intro i;unfold k7 rQ;rw[List.getElem?_mapIdx,List.getElem?_zipWith];cases hx:row[i]? with
 | none=>rfl
 | some x=>
  have hi:=(c_.1 hx).1;rw[bZ (l:=R) (by omega)];simp only[Option.map_some];by_cases hk:k<=i
  ·rw[if_pos ⟨hk,hi⟩]
  ·rw[if_neg (by omega),h i (by omega),Rat.mul_zero,Rat.sub_eq_add_neg,Rat.neg_zero,Rat.add_zero]
theorem QK(hl:R.length=row.length):rQ 0 R row=row:=by
 apply List.ext_getElem?;intro i;unfold rQ;rw[List.getElem?_zipWith];cases hx:row[i]? with
 | none=>rfl
 | some x=>
  have hi:=(c_.1 hx).1;rw[bZ (l:=R) (by omega)];simp only;rw[Rat.zero_mul,Rat.sub_eq_add_neg,Rat.neg_zero,Rat.add_zero]
end
def eO(M:List (List Rat))(R:List Rat)(r k i:Nat):List (List Rat):=M.mapIdx fun t row=>if t<i/\t≠r then rQ (vf row k) R row else row
section
variable {M:List (List Rat)} {R row:List Rat} {r p k i:Nat}
theorem wG:(eO M R r k i).length=M.length:=by unfold eO;rw[List.length_mapIdx]
theorem IO:eO M R r k 0=M:=by
 apply List.ext_getElem?;intro t;unfold eO;rw[List.getElem?_mapIdx];cases M[t]? with
 | none=>rfl
 | some x=>simp only[Option.map_some];rw[if_neg (by omega)]
theorem tY(h:M[i]?=some row):(eO M R r k i)[i]?=some row:=by
 unfold eO;rw[List.getElem?_mapIdx,h];simp only[Option.map_some];rw[if_neg (by omega)]
theorem aBc(h:M[r]?=some row):(eO M R r k i)[r]?=some row:=by
 unfold eO;rw[List.getElem?_mapIdx,h];simp only[Option.map_some];rw[if_neg (by omega)]
theorem AC:eO M R r k (r+1)=eO M R r k r:=by
 apply List.ext_getElem?;intro t;unfold eO;rw[List.getElem?_mapIdx,List.getElem?_mapIdx];cases M[t]? with
 | none=>rfl
 | some x=>
  simp only[Option.map_some];by_cases h:t<r
  ·rw[if_pos ⟨by omega,by omega⟩,if_pos ⟨h,by omega⟩]
  ·rw[if_neg (by omega),if_neg (by omega)]
theorem AB(hi:i≠r)(h:M[i]?=some row):(eO M R r k i).set i (rQ (vf row k) R row)=eO M R r k (i+1):=by
 have hl:=(c_.1 h).1;apply List.ext_getElem?;intro t;rw[List.getElem?_set,wG];unfold eO;rw[List.getElem?_mapIdx,List.getElem?_mapIdx];by_cases ht:i=t
 ·subst ht
  rw[if_pos rfl,if_pos hl,h];simp only[Option.map_some];rw[if_pos ⟨by omega,hi⟩]
 ·rw[if_neg ht]
  cases M[t]? with
  | none=>rfl
  | some x=>
   simp only[Option.map_some];by_cases h2:t<i/\t≠r
   ·rw[if_pos h2,if_pos ⟨by omega,h2.2⟩]
   ·rw[if_neg h2,if_neg (by omega)]
theorem LX(hl:R.length=row.length)(h:M[i]?=some row)(hz:vf row k=0):eO M R r k (i+1)=eO M R r k i:=by
 by_cases hi:i=r
 ·subst hi;exact AC
 ·rw[<-AB hi h,hz,QK hl]
  apply List.ext_getElem?;intro t;rw[List.getElem?_set];by_cases ht:i=t
  ·subst ht
   rw[if_pos rfl,if_pos (by rw[wG];exact(c_.1 h).1),tY h]
  ·rw[if_neg ht]
theorem QU(hp:M[p]?=some row):eO (cA M r p k) (f_ (vf row k) row) r k M.length=dJ M r p k:=by
 unfold eO dJ;have e:M.getD p []=row:=by rw[dQ,hp];rfl
 rw[e];apply List.ext_getElem?;intro t;rw[List.getElem?_mapIdx,List.getElem?_mapIdx];cases hx:(cA M r p k)[t]? with
 | none=>rfl
 | some x=>
  have ht:=(c_.1 hx).1;rw[qJ] at ht;simp only[Option.map_some];by_cases h:t=r
  ·rw[if_neg (by omega),if_pos h]
  ·rw[if_pos ⟨ht,h⟩,if_neg h]
theorem UQ(hr:M[r]?=some a)(hp:M[p]?=some row):((M.set r row).set p a).set r (f_ (vf row k) row)=cA M r p k:=by
 unfold cA;have e:M.getD p []=row:=by rw[dQ,hp];rfl
 have e2:M.getD r []=a:=by rw[dQ,hr];rfl
 rw[e,e2];by_cases h:r=p
 ·subst h;simp
 ·rw[List.set_comm _ _ (fun e=>h e.symm),List.set_set,List.set_comm _ _ h]
theorem aD2(hr:M[r]?=some a)(hp:M[p]?=some row):((M.set r row).set p a)[r]?=some row:=by
 have h1:=(c_.1 hr).1;rw[List.getElem?_set];by_cases h:p=r
 ·subst h
  rw[if_pos rfl,if_pos (by rw[jI];exact h1)];rw[hr] at hp;exact hp
 ·rw[if_neg h,List.getElem?_set,if_pos rfl,if_pos h1]
theorem IL{α:Type}{l:List α}{x:α}(h:l[i]?=some x):l.set i x=l:=by
 apply List.ext_getElem?;intro t;rw[List.getElem?_set];by_cases ht:i=t
 ·subst ht
  rw[if_pos rfl,if_pos (c_.1 h).1,h]
 ·rw[if_neg ht]
theorem WI(h:x∈f_ d row):∃y∈row,x=y / d:=by
 unfold f_ at h;obtain⟨y,hy,e⟩:=List.mem_map.1 h;exact⟨y,hy,e.symm⟩
theorem aBk(hr:M[r]?=some a)(hp:M[p]?=some row)(hb:b∈cA M r p k):b∈M\/b=f_ (vf row k) row:=by
 obtain⟨t,ht⟩:=List.mem_iff_getElem?.1 hb;by_cases h1:t=r
 ·subst h1
  rw[DW hr hp] at ht;injection ht with ht;exact .inr ht.symm
 ·by_cases h2:t=p
  ·subst h2
   rw[VJ hr hp (fun e=>h1 e.symm)] at ht;injection ht with ht;exact .inl (ht▸cS hr)
  ·rw[FK h1 h2] at ht
   exact .inl (cS ht)
theorem YV(h:Bd B M)(hp:M[p]?=some row)(hk:k<row.length):∀x∈f_ (vf row k) row,bM x+2<=2*B:=fun x hx=>by
 obtain⟨y,hy,rfl⟩:=WI hx;have h1:=h row (cS hp) y hy;have h2:=h.vf hp hk;have:=PC y (vf row k);omega
theorem Y7(h:Bd B M)(hw:∀a∈M,a.length=N)(hr:M[r]?=some a)(hp:M[p]?=some row)(hk:k<N):Bd (4*B) (dJ M r p k):=by
 have tN:=hw row (cS hp);have hd:=YV h hp (by rw[tN];exact hk);intro b hb x hx;obtain⟨t,ht⟩:=List.mem_iff_getElem?.1 hb;obtain⟨c,hc,rfl⟩:=BS hp ht;have JI:=aBk hr hp (cS hc);by_cases h1:t=r
 ·rw[if_pos h1] at hx
  rcases JI with h2 | rfl
  ·have:=h c h2 x hx;omega
  ·have:=hd x hx;omega
 ·rw[if_neg h1] at hx
  have hcM:c∈M:=by
   obtain⟨s,hs,_⟩:=uA hr hp h1 hc;exact cS hs
  have uV:=hw c hcM;obtain⟨j,hj⟩:=List.mem_iff_getElem?.1 hx;have pQ:j<c.length:=by
   have:=(c_.1 hj).1;rwa[IB (by rw[iL,tN,uV])] at this
  have hv:=y9 (f:=vf c k) (R:=f_ (vf row k) row) (row:=c) pQ (by rw[iL,tN,uV]);rw[sA hj] at hv;rw[hv];obtain⟨s,hs⟩:=List.mem_iff_getElem?.1 hcM;have b1:=h.vf hs pQ;have b2:=h.vf hs (show k<c.length by omega);have b3:=hd _ (cS (bZ (l:=f_ (vf row k) row) (show j<_ by rw[iL,tN];omega)));have b4:=mV (vf c k) (vf (f_ (vf row k) row) j);have b5:=FB (vf c j) (vf c k*vf (f_ (vf row k) row) j);omega
theorem IV(E:CH (yW M) piv k)(hp:M[p]?=some row)(hl:piv.length<=p):∀j,j<k->vf row j=0:=fun j hj=>E.rest p _ (kD hp) hl j hj
theorem YT(h:vf row j=0)(hj:j<row.length):vf (f_ d row) j=0:=by
 rw[zL hj,h,Rat.div_def,Rat.zero_mul]
theorem L3(h:piv.length<M.length)(hp:kN M piv.length k=M.length):kM (s+1) M piv k=kM s M piv (k+1):=by
 rw[kM,if_pos h,if_pos hp]
theorem L0(h:piv.length<M.length)(hp:kN M piv.length k=p)(cK:p≠M.length):kM (s+1) M piv k=kM s (dJ M piv.length p k) (piv++[k]) (k+1):=by
 subst hp;rw[kM,if_pos h,if_neg cK]
theorem L4(h:¬piv.length<M.length):kM s M piv k=(M,piv):=by
 cases s with
 | zero=>rfl
 | succ s=>rw[kM,if_neg h]
end
theorem OQ{cols:Nat}(h:k<=cols)(c:Nat):4^k*c<=4^cols*c:=Nat.mul_le_mul_right _ (Nat.pow_le_pow_right (by decide) h)
end
section
open Go.ChangeShapes Go.WideShapes Go.ChangeAt Go.RowKit
attribute [local go_sem ↓] aE
attribute [local go_sem] aJ aI aL
theorem Qu.away(h:Qu w base v xs){q:Addr}(hq:q.block<base)(u:Value):Qu (w.setCell q u) base v xs:=by
 obtain⟨g,off,cap,h1,h2,h3,h4,h5,h6,h7⟩:=h.ex;have hb:Below q.block w (w.setCell q u):=(Below.refl _ w).setCell lR u;have hc:∀j,(w.setCell q u).cell? ⟨g,off+j,none⟩=w.cell? ⟨g,off+j,none⟩:=fun j=>World.cell?_setCell_other _ _ _ _ (fun e=>by subst e;simp at hq;omega);have hfz:∀j,(w.setCell q u).frozen? ⟨g,off+j,none⟩=w.frozen? ⟨g,off+j,none⟩:=fun j=>by
  obtain⟨qb,qo,qs⟩:=q;cases qs with
  | none=>exact World.frozen?_setCells qb [u] qo w _
  | some s=>simp
 exact⟨g,off,cap,h1,h2,jJ h3 hb.size,h4,h5,fun j hj=>by rw[hc,hfz];exact h6 j hj,fun j x hx=>by rw[hc];exact h7 j x hx⟩
def eV(l:List Nat):List Int:=l.map fun(v:Nat)=>(v:Int)
theorem WZ:(Tryz.prog.info? 3).map (fun i=>(i.zero,i.size,i.bytes))=some (some (.int .i64 0),1,8):=by kernel_rfl
def GW(p:Nat×Nat):List Value:=[.int .i64 p.1,.int .i64 p.2]
def KQ(w:Wo)(B:Nat)(A:OA)(n:Nat)(es:List (Nat×Nat)):Prop:=es.length=n/\Rd w B 2 A n (es.flatMap GW)
theorem KQ.below{B':Nat}{xs:List (Nat×Nat)}(h:KQ w B A n xs)(hb:Below B' w w')(hB:B<=B'):KQ w' B A n xs:=⟨h.1,h.2.below hb hB⟩
theorem KQ.more{B':Nat}{xs:List (Nat×Nat)}(h:KQ w B A n xs)(hB:B<=B'):KQ w B' A n xs:=⟨h.1,h.2.more hB⟩
theorem KQ.form{xs:List (Nat×Nat)}(h:KQ w B A n xs)(h0:0<n):∃b off,A=some ⟨b,off,none⟩/\b<B:=by
 obtain⟨b,off,e,aR,_⟩:=h.2.2 h0;exact⟨b,off,e,aR⟩
theorem KQ.at_{b off:Nat}{xs:List (Nat×Nat)}(h:KQ w B (some ⟨b,off,none⟩) n xs){x:Nat×Nat}(hx:xs[i]?=some x):w.cell? ⟨b,off+i*2,none⟩=some (.int .i64 x.1)/\w.cell? ⟨b,off+i*2+1,none⟩=some (.int .i64 x.2):=by
 have hl:i<xs.length:=(c_.1 hx).1;have h1:=h.1;obtain⟨b',off',e,_,hc⟩:=h.2.2 (by omega);injection e with e;injection e with e1 e2;subst e1;subst e2;have hf:=fun k hk=>iN (el:=GW) (sz:=2) (fun _=>rfl) xs i x hx k hk;exact⟨hc _ _ (hf 0 (by omega)),by rw[Nat.add_assoc];exact hc _ _ (hf 1 (by omega))⟩
theorem VO{es:List (Nat×Nat)}(hi:i<n)(h:0<=out.getD i 0):FL n es (n-i) i (out,m)=FL n es (n-(i+1)) (i+1) (out,m):=by
 obtain⟨k,hk⟩:∃k,n-i=k+1:=⟨n-i-1,by omega⟩;rw[hk,show n-(i+1)=k from by omega];show(if 0<=out.getD i 0 then _ else _)=_;rw[if_pos h]
theorem VN{es:List (Nat×Nat)}(hi:i<n)(h:¬0<=out.getD i 0):FL n es (n-i) i (out,m)=FL n es (n-(i+1)) (i+1) (mO m es (n+1) (out.set i m) [i],m+1):=by
 obtain⟨k,hk⟩:∃k,n-i=k+1:=⟨n-i-1,by omega⟩;rw[hk,show n-(i+1)=k from by omega];show(if 0<=out.getD i 0 then _ else _)=_;rw[if_neg h]
theorem VP{es:List (Nat×Nat)}{f:Nat}:mO m es f out []=out:=by cases f<;>rfl
theorem aBm{es:List (Nat×Nat)}{f:Nat}{q:List Nat}(hf:0<f):mO m es f out (u::q)=mO m es (f-1) (hY u m es (out,q)).1 (hY u m es (out,q)).2:=by
 obtain⟨k,rfl⟩:∃k,f=k+1:=⟨f-1,by omega⟩;rfl
theorem L8{es:List (Nat×Nat)}{x:Nat×Nat}{s:List Int×List Nat}(h:es[k]?=some x):hY u m (es.drop k) s=hY u m (es.drop (k+1)) (dU u m s x):=by
 rw[bW h];rfl
theorem oS{l:List Int}(h:aD w g 3 (bK l).toArray)(hi:i<l.length):w.cell? ⟨g,i,none⟩=some (.int .i64 (l.getD i 0)):=by
 rw[h.cell,List.getElem?_toArray];unfold bK;rw[pL,dQ,jP hi];rfl
theorem AA{l:List Int}(h:aD w g 3 (bK l).toArray)(v:Int):aD (w.setCell ⟨g,i,none⟩ (.int .i64 v)) g 3 (bK (l.set i v)).toArray:=by
 have h:=h.set_ i (.int .i64 v);rw[show(bK l).toArray.setIfInBounds i (.int .i64 v)=(bK (l.set i v)).toArray from by unfold bK;rw[List.setIfInBounds_toArray,List.map_set]] at h;exact h
theorem rF(q:List Nat)(a:Nat):bK (eV q)++[Value.int .i64 (a:Int)]=bK (eV (q++[a])):=by
 unfold bK eV;rw[List.map_append,List.map_append];rfl
def ZV(n:Nat)(es:List (Nat×Nat))(w:Wo)(e:Ending)(w':Wo):Prop:=
 Below w.heap.size w w'/\∃g:Nat,e=.returned (.slice (some ⟨g,0,none⟩) n n)/\w.heap.size<=g/\aD w' g 3 (bK (eQ n es)).toArray
theorem Q8(n:Nat)(es:List (Nat×Nat))(w:Wo)(e:Ending)(w':Wo)(h:Below w.heap.size w w'/\∃g:Nat,e=.returned (.slice (some ⟨g,0,none⟩) n n)/\w.heap.size<=g/\aD w' g 3 (bK (eQ n es)).toArray):ZV n es w e w':=h
theorem Q7(A:OA)(c n:Nat)(es:List (Nat×Nat))(w:Wo)(hE:KQ w w.heap.size A es.length es)(ok:∀x∈es,x.1<n/\x.2<n)(hn:n<=1000)(he:es.length<=1000):Calls Tryz.prog 118 #[.int .i64 n,.slice A es.length c,.int .i64 (-1)] w (ZV n es w):=by
 obtain⟨HE,cL,HP⟩:=eR hE ok (Q8 n es w);clear hE ok;obtain⟨i0,jL,R1,TQ,hi3⟩:=info_parts WZ;obtain⟨yT,xK,CE⟩:=eR jL R1 TQ;have CD:Hid (i0.bytes<=16):=lH (by rw[hi3];decide);clear jL R1 TQ hi3;have cR:Hid (Below w.heap.size w (w.alloc (.cells #[.int .i64 (-1)] 3))):=lH (bA);have RY:(w.alloc (.cells #[.int .i64 (-1)] 3)).cell? ⟨w.heap.size,0,none⟩=some (.int .i64 (-1)):=(aD.new w 3 #[.int .i64 (-1)]).cell 0;go_enter Tryz.func118,Tryz.ntmps118
 generalize hW1:w.alloc (.cells #[.int .i64 (-1)] 3)=w1 at *
 go_wp2_with fail
 refine(LY (-1) w.heap.size n w1 RY hn).mono ?_;rintro e w2 ⟨g,rfl,hg,eA,k2⟩;have dB:=bX cR k2;have fW:Hid (aD w2 g 3 (bK (List.replicate n (-1))).toArray):=lH (by unfold bK;rw[List.map_replicate];exact eA);have hwg:w.heap.size<=g:=eN cR.o.size hg;clear eA k2 RY hW1 hg cR
 go_wp2_with fail
 go_loopw [8,19] (fun v8 v19 wr=>∃(i:Nat)(out:List Int)(m:Int),i<=n/\v19=.int .i64 i/\v8=.int .i64 m/\FL n es (n-i) i (out,m)=FL n es n 0 (List.replicate n (-1),0)/\Ps n m out []/\0<=m/\m<=i/\Below w.heap.size w wr/\aD wr g 3 (bK out).toArray) (fun _ v19 _=>n-(intOf v19).toNat)
 case atStart=>exact⟨0,List.replicate n (-1),0,by omega,rfl,rfl,rfl,⟨by simp,fun _ h=>(by cases h),fun x hx=>(by rw[List.eq_of_mem_replicate hx];omega)⟩,by omega,by omega,dB.o,fW.o⟩
 case round=>
  clear dB fW;obtain⟨i,out,m,hi,rfl,rfl,hf,vL,MZ,hmi,hb,eA⟩:=hrel;obtain⟨HF,CA,HB,HG⟩:=gO hf vL hb eA;have hol:=vL.len;have xY:=eA.lt;clear hf vL hb eA;by_cases aR:i<n
  ·have gH:=oS HG.o (by rw[hol];exact aR)
   have hfz:=HG.o.frozen i;have CZ:(i:Int)<(n:Int):=by omega
   by_cases hz:0<=out.getD i 0
   ·have HZ:=lH hz
    have TB:decide (out.getD i 0<0)=false:=decide_eq_false (by omega);generalize out.getD i 0=z at gH hz TB;have HOL:=lH hol;clear hol TB;(go_wp2_with fail);go_roundw
    case rel=>exact⟨i+1,out,m,by omega,by go_num,rfl,by rw[<-HF.o,VO aR HZ.o],CA.o,MZ,by omega,HB.o,HG.o⟩
    case measure=>simp[intOf];omega
   ·have HZ:=lH hz
    have aDG:Hid (i<out.length):=lH (by rw[hol];exact aR);have HOL:=lH hol;have aJU:Hid (out.getD i 0<0):=lH (by omega);generalize out.getD i 0=z at gH hz;have hz':z<0:=by omega
    have gY:=lH (HB.o.setCell (p:=⟨g,i,none⟩) (by simp;omega) (.int .i64 m));have GN:=lH (AA (i:=i) HG.o m);clear hz hol;(go_wp2_with fail);have bH:=lH (gY.o.alloc gY.o.size (.cells #[.int .i64 i] 3));have TC:=lH (GN.o.alloc (.cells #[.int .i64 i] 3));have HQ4:Hid (Qu ((wr.setCell ⟨g,i,none⟩ (.int .i64 m)).alloc (.cells #[.int .i64 i] 3)) (g+1) (.slice (some ⟨wr.heap.size,0,none⟩) 1 1) (bK (eV [i]))):=lH (by
     have hb:=aD.new (wr.setCell ⟨g,i,none⟩ (.int .i64 m)) 3 #[.int .i64 i];have gP:(wr.setCell ⟨g,i,none⟩ (.int .i64 m)).heap.size=wr.heap.size:=by simp
     rw[gP] at hb;refine⟨wr.heap.size,0,1,rfl,by omega,hb.lt,lR,by simp only[maxLen];omega,fun j hj=>?_,fun j u hu=>?_⟩
     ·have JF:j=0:=by omega
      subst JF;exact⟨by rw[hb.cell 0];rfl,hb.frozen 0⟩
     ·have JF:j=0:=by have:=(c_.1 hu).1;simpa[bK,eV] using this
      subst JF;rw[Nat.add_zero,hb.cell 0];simpa[bK,eV] using hu)
    have hs4:g+1<=((wr.setCell ⟨g,i,none⟩ (.int .i64 m)).alloc (.cells #[.int .i64 i] 3)).heap.size:=by simp;omega
    have aJI:Hid (Ps n m (out.set i m) [i]):=lH ⟨by simp[HOL.o],fun v hv=>by rw[List.mem_singleton.1 hv];exact aR,fun x hx=>by
     rcases List.mem_or_eq_of_mem_set hx with hx | rfl
     ·exact CA.o.bd x hx
     ·omega⟩
    have HM4:Hid (([i]:List Nat).length+uH (out.set i m)<=n+1):=lH (by
     have h1:=uG out i m MZ aDG.o aJU.o;have h2:=OR out;have h3:=HOL.o;simp;omega)
    generalize hW4:(wr.setCell ⟨g,i,none⟩ (.int .i64 m)).alloc (.cells #[.int .i64 i] 3)=w4 at *;obtain⟨R0,hR0⟩:∃R0,R0=mO m es (n+1) (out.set i m) [i]:=⟨_,rfl⟩;have GY:=lH hR0;clear hW4 gH hfz gY GN aDG aJU hR0
    go_loopg [10] (n+1) (fun f v10 wr=>∃(out:List Int)(q:List Nat),Ps n m out q/\mO m es f out q=R0/\q.length+uH out<=f/\f<=n+1/\Below w.heap.size w wr/\aD wr g 3 (bK out).toArray/\Qu wr (g+1) v10 (bK (eV q))/\g+1<=wr.heap.size)
    case atStart=>exact⟨out.set i m,[i],aJI.o,GY.o.symm,HM4.o,by omega,bH.o,TC.o,HQ4.o,hs4⟩
    case round=>
     clear bH TC HQ4 aJI HM4 hs4 xY CA HG HB HOL;obtain⟨out2,q2,vL,aIs,hmm,hgn,hb,eA,hq,hs⟩:=hrel;obtain⟨CA,aFU,HB,HG,HMM⟩:=mP vL aIs hb eA hmm;obtain⟨qb,qo,qc,rfl,hqg,aSO,hqc,hqm,hqh,hqx⟩:=hq.ex;have TO:(bK (eV q2)).length=q2.length:=by simp[bK,eV]
     rw[TO] at hqc hq ⊢;have HQ:=lH hq;clear vL hb eA hq aIs hmm TO;cases q2 with
     | nil=>
      clear hqx hqh;simp only[zW_] at *;(go_wp2_with fail);go_roundw
      case rel=>exact⟨i+1,out2,m+1,by omega,by go_num,by go_num,by rw[<-HF.o,VN aR (by have:=HZ.o;omega),<-GY.o,<-aFU.o,VP],⟨CA.o.len,CA.o.lt,fun x hx=>by have:=CA.o.bd x hx;omega⟩,by omega,by omega,HB.o,HG.o⟩
      case measure=>simp[intOf];omega
     | cons u q=>
      have hul:=CA.o.lt u (List.mem_cons_self ..);have hq0:=hqx 0 (.int .i64 u) rfl;rw[Nat.add_zero] at hq0;have hqt:=HQ.o;rw[show bK (eV (u::q))=.int .i64 u::bK (eV q) from rfl] at hqt;have hqt:=hqt.tail;rw[G4,Nat.add_sub_cancel] at hqt;have aSP:(0:Int)<((q.length+1:Nat):Int):=by omega
      have mR:1<=q.length+1:=by omega
      have hqd:decide (0<q.length+1)=true:=by simp
      have aBM:q.length+1-1=q.length:=by omega
      have aSR:1<=qc:=by rw[G4] at hqc;omega
      have aSQ:q.length+1<=qc:=by rw[G4] at hqc;exact hqc
      generalize hqa:(if qc=1 then some (⟨qb,qo,none⟩:Addr) else some ⟨qb,qo+1,none⟩)=qa at hqt;have HQT:=lH hqt;have hln:(u::q).length=q.length+1:=rfl;rw[hln] at hqc ⊢;have HLQ:=lH hln;clear hqt hqx hqh hln;generalize TO:q.length+1=ql at *;have pT:=lH TO;clear TO;(go_wp2_with fail);have hwo:=HB.o.size;obtain⟨S0,hS0⟩:∃S0,S0=hY u m es (out2,q):=⟨_,rfl⟩;have NZ:=lH hS0;obtain⟨C0,hC0⟩:∃C0,C0=q.length+uH out2:=⟨_,rfl⟩;have HC0:=lH hC0;have aJH:Hid (Ps n m out2 q):=lH ⟨CA.o.len,fun v hv=>CA.o.lt v (List.mem_cons_of_mem _ hv),CA.o.bd⟩;have aKb:Hid (0<gk->mO m es (gk-1) S0.1 S0.2=R0):=lH (fun h=>by rw[<-aFU.o,aBm h,<-NZ.o]);have aAc:Hid (1+C0<=gk):=lH (by have:=HMM.o;rw[G4] at this;omega);clear aFU HMM hS0 hC0 CA
      go_loopw [10,43] (fun v10 v43 wr=>∃(k:Nat)(out:List Int)(q:List Nat),k<=es.length/\v43=.int .i64 k/\Ps n m out q/\hY u m (es.drop k) (out,q)=S0/\q.length+uH out=C0/\Below w.heap.size w wr/\aD wr g 3 (bK out).toArray/\Qu wr (g+1) v10 (bK (eV q))/\g+1<=wr.heap.size) (fun _ v43 _=>es.length-(intOf v43).toNat)
      case atStart=>exact⟨0,out2,q,by omega,rfl,aJH.o,NZ.o.symm,HC0.o.symm,HB.o,HG.o,by have h:=HQT.o;rw[<-hqa] at h;first | exact h | (rw[hqa] at h;exact h),hs⟩
      case round=>
       clear aJH HB HG HQT HQ;obtain⟨k,out3,q3,hk,rfl,vL,hsc,M_,hb,eA,EC,hs3⟩:=hrel;obtain⟨CA,HSC,HCC,HB,HG⟩:=mP vL hsc M_ hb eA;have HQ:=lH EC;have aH3:=lH vL.len;clear vL hsc M_ hb eA EC;by_cases aMm:k<es.length
       ·obtain⟨⟨xa,xb⟩,hx⟩:∃x,es[k]?=some x:=⟨_,jP aMm⟩
        have hE:=(HE.o.below HB.o lR).more HB.o.size;obtain⟨eb,eo,heA,heb⟩:=hE.form (by omega);subst heA;obtain⟨e0,e1⟩:=hE.at_ hx;dsimp only at e0 e1;obtain⟨hxa,hxb⟩:=cL.o _ (cS hx);dsimp only at hxa hxb;have iM:(k:Int)<(es.length:Int):=by omega
        have hkm:((k:Int) == -1)=false:=by simp
        have jE:=lH (IU (u:=u) (s:=(out3,q3)) MZ (cL.o _ (cS hx)) CA.o);have tI:Hid (hY u m (es.drop (k+1)) (dU u m (out3,q3) (xa,xb))=S0):=lH (by rw[<-HSC.o,L8 hx]);obtain⟨G2,GM,Z_⟩:=eR (HB.o.alloc HB.o.size (.cells #[.int .i64 xa,.int .i64 xb] 152)) (HG.o.alloc (.cells #[.int .i64 xa,.int .i64 xb] 152)) (HQ.o.up (bR.alloc lR (.cells #[.int .i64 xa,.int .i64 xb] 152)));have aIC:=aD.new wr 152 #[.int .i64 xa,.int .i64 xb];obtain⟨b0,b1⟩:=aIC.a2;have aTv:g<wr.heap.size:=by omega
        clear hE hx aIC;unfold dU at jE tI;by_cases hh:xa=u\/xb=u
        ·by_cases ha:xa=u
         ·subst ha
          have hna:((xa:Int) != (xa:Int))=false:=by simp
          have ho:xa+xb-xa=xb:=by omega
          dsimp only at jE tI;rw[ho] at jE tI;have sV:(wr.alloc (.cells #[.int .i64 xa,.int .i64 xb] 152)).cell? ⟨g,xb,none⟩=some (.int .i64 (out3.getD xb 0)):=oS GM.o (by rw[aH3.out];omega);have hoI:(xb:Int)<(n:Int):=by omega
          have hfz:=GM.o.frozen xb;by_cases hz:out3.getD xb 0<0
          ·have HZ:=lH hz
           rw[if_pos ⟨hh,hz⟩] at jE tI;generalize out3.getD xb 0=z at sV hz;have ED:(bK (eV q3)).length<=1000000:=by
            have h1:=HCC.o;have h2:=aAc.o;simp only[bK,eV,kJ];omega
           have gN:=lH ((HB.o.setCell (p:=⟨g,xb,none⟩) (by simp;omega) (.int .i64 m)).alloc (by simp;omega) (.cells #[.int .i64 xa,.int .i64 xb] 152));have HG7:=lH ((AA (i:=xb) HG.o m).alloc (.cells #[.int .i64 xa,.int .i64 xb] 152));have N1:=lH ((HQ.o.away (q:=⟨g,xb,none⟩) (by simp) (.int .i64 m)).up (bR.alloc lR (.cells #[.int .i64 xa,.int .i64 xb] 152)));generalize CL:(wr.setCell ⟨g,xb,none⟩ (.int .i64 m)).alloc (.cells #[.int .i64 xa,.int .i64 xb] 152)=w7 at gN HG7 N1;have hs7:wr.heap.size+1=w7.heap.size:=by rw[<-CL];simp
           have hX:Hid (Below w.heap.size w (((wr.setCell ⟨g,xb,none⟩ (.int .i64 m)).alloc (.cells #[.int .i64 xa,.int .i64 xb] 152)).alloc (.cells #[.int .i64 ((xa:Int)+xb-xa)] 3))):=lH (by rw[CL];exact gN.o.alloc gN.o.size (.cells #[.int .i64 ((xa:Int)+xb-xa)] 3));have HG8:Hid (aD (((wr.setCell ⟨g,xb,none⟩ (.int .i64 m)).alloc (.cells #[.int .i64 xa,.int .i64 xb] 152)).alloc (.cells #[.int .i64 ((xa:Int)+xb-xa)] 3)) g 3 (bK (out3.set xb m)).toArray):=lH (by rw[CL];exact HG7.o.alloc (.cells #[.int .i64 ((xa:Int)+xb-xa)] 3));have HQ8:Hid (Qu (((wr.setCell ⟨g,xb,none⟩ (.int .i64 m)).alloc (.cells #[.int .i64 xa,.int .i64 xb] 152)).alloc (.cells #[.int .i64 ((xa:Int)+xb-xa)] 3)) (g+1) u10 (bK (eV q3))):=lH (by rw[CL];exact N1.o.up (bR.alloc lR (.cells #[.int .i64 ((xa:Int)+xb-xa)] 3)));have HC8:Hid ((((wr.setCell ⟨g,xb,none⟩ (.int .i64 m)).alloc (.cells #[.int .i64 xa,.int .i64 xb] 152)).alloc (.cells #[.int .i64 ((xa:Int)+xb-xa)] 3)).cell? ⟨wr.heap.size+1,0,none⟩=some (.int .i64 ((xa:Int)+xb-xa))):=lH (by
            rw[CL];have h:=(aD.new w7 3 #[.int .i64 ((xa:Int)+xb-xa)]).cell 0;rw[<-hs7] at h;simpa using h)
           have hs8:g+1<=(((wr.setCell ⟨g,xb,none⟩ (.int .i64 m)).alloc (.cells #[.int .i64 xa,.int .i64 xb] 152)).alloc (.cells #[.int .i64 ((xa:Int)+xb-xa)] 3)).heap.size:=by simp;omega
           clear hs7 CL gN HG7 N1
           go_wp2_with (at_builtin;refine pE _ rfl (.tmp 79) (.tmp 81) 47 rfl (g+1) 3 i0 (.int .i64 0) Tryz.underlying47 yT.o xK.o CE.o CD.o rfl u10 _ rfl HQ8.o ⟨wr.heap.size+1,0,none⟩ 1 _ rfl HC8.o rfl rfl ED hs8 ?_;intro v' w9 hq9 jQ)
           go_roundw
           case rel=>
            have hq:bK (eV q3)++[Value.int .i64 ((xa:Int)+xb-xa)]=bK (eV (q3++[xb])):=by
             first | exact rF _ _ | (rw[<-rF];congr 1<;>first | rfl | (congr 2;omega))
            rw[hq] at hq9;have h1:=jE.o;exact⟨k+1,_,_,by omega,by go_num,h1.1,tI.o,h1.2.1.trans HCC.o,hX.o.trans (jQ.mono (by omega)),HG8.o.below jQ (by omega),hq9,eN hs8 jQ.size⟩
           case measure=>simp[intOf];omega
          ·rw[if_neg (fun h=>hz h.2)] at jE tI
           have mK:decide (out3.getD xb 0<0)=false:=decide_eq_false hz;generalize out3.getD xb 0=z at sV hz mK;(go_wp2_with fail);go_roundw
           case rel=>exact⟨k+1,out3,q3,by omega,by go_num,CA.o,tI.o,HCC.o,G2.o,GM.o,Z_.o,by simp;omega⟩
           case measure=>simp[intOf];omega
         ·have hb:xb=u:=hh.resolve_left ha
          subst hb;have hna:((xa:Int) != (xb:Int))=true:=by simp;omega
          have aS1:((xb:Int) != (xb:Int))=false:=by simp
          have ho:xa+xb-xb=xa:=by omega
          dsimp only at jE tI;rw[ho] at jE tI;have sV:(wr.alloc (.cells #[.int .i64 xa,.int .i64 xb] 152)).cell? ⟨g,xa,none⟩=some (.int .i64 (out3.getD xa 0)):=oS GM.o (by rw[aH3.out];omega);have hoI:(xa:Int)<(n:Int):=by omega
          have hfz:=GM.o.frozen xa;by_cases hz:out3.getD xa 0<0
          ·have HZ:=lH hz
           rw[if_pos ⟨hh,hz⟩] at jE tI;generalize out3.getD xa 0=z at sV hz;have ED:(bK (eV q3)).length<=1000000:=by
            have h1:=HCC.o;have h2:=aAc.o;simp only[bK,eV,kJ];omega
           have gN:=lH ((HB.o.setCell (p:=⟨g,xa,none⟩) (by simp;omega) (.int .i64 m)).alloc (by simp;omega) (.cells #[.int .i64 xa,.int .i64 xb] 152));have HG7:=lH ((AA (i:=xa) HG.o m).alloc (.cells #[.int .i64 xa,.int .i64 xb] 152));have N1:=lH ((HQ.o.away (q:=⟨g,xa,none⟩) (by simp) (.int .i64 m)).up (bR.alloc lR (.cells #[.int .i64 xa,.int .i64 xb] 152)));generalize CL:(wr.setCell ⟨g,xa,none⟩ (.int .i64 m)).alloc (.cells #[.int .i64 xa,.int .i64 xb] 152)=w7 at gN HG7 N1;have hs7:wr.heap.size+1=w7.heap.size:=by rw[<-CL];simp
           have hX:Hid (Below w.heap.size w (((wr.setCell ⟨g,xa,none⟩ (.int .i64 m)).alloc (.cells #[.int .i64 xa,.int .i64 xb] 152)).alloc (.cells #[.int .i64 (xa:Int)] 3))):=lH (by rw[CL];exact gN.o.alloc gN.o.size (.cells #[.int .i64 (xa:Int)] 3));have HG8:Hid (aD (((wr.setCell ⟨g,xa,none⟩ (.int .i64 m)).alloc (.cells #[.int .i64 xa,.int .i64 xb] 152)).alloc (.cells #[.int .i64 (xa:Int)] 3)) g 3 (bK (out3.set xa m)).toArray):=lH (by rw[CL];exact HG7.o.alloc (.cells #[.int .i64 (xa:Int)] 3));have HQ8:Hid (Qu (((wr.setCell ⟨g,xa,none⟩ (.int .i64 m)).alloc (.cells #[.int .i64 xa,.int .i64 xb] 152)).alloc (.cells #[.int .i64 (xa:Int)] 3)) (g+1) u10 (bK (eV q3))):=lH (by rw[CL];exact N1.o.up (bR.alloc lR (.cells #[.int .i64 (xa:Int)] 3)));have HC8:Hid ((((wr.setCell ⟨g,xa,none⟩ (.int .i64 m)).alloc (.cells #[.int .i64 xa,.int .i64 xb] 152)).alloc (.cells #[.int .i64 (xa:Int)] 3)).cell? ⟨wr.heap.size+1,0,none⟩=some (.int .i64 (xa:Int))):=lH (by
            rw[CL];have h:=(aD.new w7 3 #[.int .i64 (xa:Int)]).cell 0;rw[<-hs7] at h;simpa using h)
           have hs8:g+1<=(((wr.setCell ⟨g,xa,none⟩ (.int .i64 m)).alloc (.cells #[.int .i64 xa,.int .i64 xb] 152)).alloc (.cells #[.int .i64 (xa:Int)] 3)).heap.size:=by simp;omega
           clear hs7 CL gN HG7 N1
           go_wp2_with (at_builtin;refine pE _ rfl (.tmp 79) (.tmp 81) 47 rfl (g+1) 3 i0 (.int .i64 0) Tryz.underlying47 yT.o xK.o CE.o CD.o rfl u10 _ rfl HQ8.o ⟨wr.heap.size+1,0,none⟩ 1 _ rfl HC8.o rfl rfl ED hs8 ?_;intro v' w9 hq9 jQ)
           go_roundw
           case rel=>
            have hq:bK (eV q3)++[Value.int .i64 (xa:Int)]=bK (eV (q3++[xa])):=by
             first | exact rF _ _ | (rw[<-rF];congr 1<;>first | rfl | (congr 2;omega))
            rw[hq] at hq9;have h1:=jE.o;exact⟨k+1,_,_,by omega,by go_num,h1.1,tI.o,h1.2.1.trans HCC.o,hX.o.trans (jQ.mono (by omega)),HG8.o.below jQ (by omega),hq9,eN hs8 jQ.size⟩
           case measure=>simp[intOf];omega
          ·rw[if_neg (fun h=>hz h.2)] at jE tI
           have mK:decide (out3.getD xa 0<0)=false:=decide_eq_false hz;generalize out3.getD xa 0=z at sV hz mK;(go_wp2_with fail);go_roundw
           case rel=>exact⟨k+1,out3,q3,by omega,by go_num,CA.o,tI.o,HCC.o,G2.o,GM.o,Z_.o,by simp;omega⟩
           case measure=>simp[intOf];omega
        ·have hna : ((xa : Int) != (u : Int)) = true := by
          have : xa ≠ u := fun h => hh (.inl h)
          simp;omega
         have hnb : ((xb : Int) != (u : Int)) = true := by
          have : xb ≠ u := fun h => hh (.inr h)
          simp;omega
         rw[if_neg (fun h=>hh h.1)] at jE tI;(go_wp2_with fail);go_roundw
         case rel=>exact⟨k+1,out3,q3,by omega,by go_num,CA.o,tI.o,HCC.o,G2.o,GM.o,Z_.o,by simp;omega⟩
         case measure=>simp[intOf];omega
       ·have hkk:k=es.length:=by omega
        subst hkk;(go_wp2_with fail)
        go_roundg (gk-1)
        case rel=>
         have hS:(out3,q3)=S0:=by rw[<-HSC.o,List.drop_length];rfl
         exact⟨out3,q3,CA.o,by rw[<-aKb.o (by have:=aAc.o;omega),<-hS],by have:=aAc.o;have:=HCC.o;omega,by omega,HB.o,HG.o,HQ.o,hs3⟩
        case measure=>have:=aAc.o;omega
  ·have rH:i=n:=by omega
   subst rH;(go_wp2_with fail);go_ret;exact HP.o _ _ ⟨HB.o,g,rfl,hwg,by
    have h:=HG.o;have e:out=eQ i es:=by unfold eQ;rw[<-HF.o,Nat.sub_self];rfl
    rw[e] at h;exact h⟩
theorem KQ.bm{l:List (Nat×Nat)}(h:KQ w w.heap.size A n l)(g:Below w.heap.size w w'):KQ w' w'.heap.size A n l:=(h.below g lR).more g.size
end
section
def l7(n i:Nat):List Rat:=(List.replicate n 0).set i 1
def fD(M:List (List Rat)):List (List Rat):=M.mapIdx fun i row=>row++l7 M.length i
theorem fJ(M:List (List Rat)):(fD M).length=M.length:=by unfold fD;rw[List.length_mapIdx]
theorem rJ{M:List (List Rat)}(h:M[i]?=some row):(fD M)[i]?=some (row++l7 M.length i):=by
 unfold fD;rw[List.getElem?_mapIdx,h];rfl
theorem qO{M:List (List Rat)}(h:∀a∈M,a.length=M.length):∀a∈fD M,a.length=M.length+M.length:=fun a ha=>by
 obtain⟨i,hi⟩:=List.mem_iff_getElem?.1 ha;obtain⟨row,hr⟩:∃row,M[i]?=some row:=eG (by have:=(c_.1 hi).1;rwa[fJ] at this);rw[rJ hr] at hi;injection hi with hi;rw[<-hi,jO,h row (cS hr)];unfold l7;rw[jI,pV]
def wY(M:List (List Rat)):List (List Rat):=(jK (fD M) M.length).1.map (List.drop M.length)
def Reg(M:List (List Rat)):Prop:=¬(jK (fD M) M.length).2.length<M.length
theorem qH(f:Fn)(n:Nat):∀m:Nat,aP (n+m) f=aP n f+aP m (fun j=>f (n+j))
 | 0=>by simp only[Nat.add_zero,aP];rw[Rat.add_zero]
 | m+1=>by
  rw[<-Nat.add_assoc];simp only[aP];rw[qH f n m,Rat.add_assoc]
theorem W3:∀{l:List Nat}{k t p:Nat},l.Pairwise (·<·)->(∀x∈l,k<=x)->l[t]?=some p->k+t<=p
 | x::l,k,0,p,_,h,e=>by simp at e;subst e;exact h x (by simp)
 | x::l,k,t+1,p,hp,h,e=>by
  rw[List.pairwise_cons] at hp;have:=W3 (k:=k+1) hp.2 (fun y hy=>by have:=hp.1 y hy;have:=h x (by simp);omega) (by simpa using e);omega
 | [],_,_,_,_,_,e=>by simp at e
theorem MQ:∀{l:List Nat}{n t p:Nat},l.Pairwise (·<·)->(∀x∈l,x<n)->l[t]?=some p->p+(l.length-t)<=n
 | [x],n,0,p,_,h,e=>by simp at e;subst e;have:=h x (by simp);simp;omega
 | x::y::l,n,0,p,hp,h,e=>by
  simp at e;subst e;rw[List.pairwise_cons] at hp;have h1:=MQ (t:=0) hp.2 (fun z hz=>h z (by simp[hz])) rfl;have h2:=hp.1 y (by simp);simp only[G4] at h1 ⊢;omega
 | x::l,n,t+1,p,hp,h,e=>by
  rw[List.pairwise_cons] at hp;have:=MQ (t:=t) hp.2 (fun z hz=>h z (by simp[hz])) (by simpa using e);simp only[G4];omega
 | [],_,_,_,_,_,e=>by simp at e
theorem OT{l:List Nat}{t:Nat}(h1:l.Pairwise (·<·))(h2:∀x∈l,x<n)(h3:l.length=n)(h:l[t]?=some p):p=t:=by
 have a:=W3 (k:=0) h1 (fun _ _=>Nat.zero_le _) h;have b:=MQ h1 h2 h;have c:=(c_.1 h).1;omega
section
variable {M:List (List Rat)}
theorem UE(h:j<a.length):vf (a++b) j=vf a j:=by
 unfold vf;rw[dQ,dQ,yV h]
theorem OC:vf (a++b) (a.length+j)=vf b j:=by
 unfold vf;rw[dQ,dQ,DK (by omega),Nat.add_sub_cancel_left]
theorem aAU:vf (a.drop n) j=vf a (n+j):=by
 unfold vf;rw[dQ,dQ,List.getElem?_drop]
theorem OB(hj:j<n):vf (l7 n i) j=if j=i then 1 else 0:=by
 unfold vf l7;rw[dQ,List.getElem?_set];by_cases h:i=j
 ·subst h
  rw[if_pos rfl,if_pos (by rw[pV];exact hj),if_pos rfl];rfl
 ·rw[if_neg h,if_neg (fun e=>h e.symm),List.getElem?_replicate,if_pos hj]
  rfl
theorem O9(hw:∀a∈M,a.length=M.length)(x:Fn):TW M.length (yW (fD M)) x<->TW M.length (yW M) x:=by
 rw[oY,oY];have key:∀(i:Nat)(a:List Rat),M[i]?=some a->a_ M.length (vf (a++l7 M.length i)) x=a_ M.length (vf a) x:=fun i a hi=>
  s_ (fun j hj=>UE (by rw[hw a (cS hi)];exact hj)) fun _ _=>rfl
 constructor
 ·intro h i a hi
  rw[<-key i a hi];exact h i _ (rJ hi)
 ·intro h i a hi
  obtain⟨row,hr⟩:∃row,M[i]?=some row:=eG (by have:=(c_.1 hi).1;rwa[fJ] at this);rw[rJ hr] at hi;injection hi with hi;rw[<-hi,key i row hr];exact h i row hr
theorem aBf(hw:∀a∈M,a.length=M.length):Reg M<->∀x,TW M.length (yW M) x->∀j,j<M.length->x j=0:=by
 have R:=zC (M:=fD M) (cols:=M.length) (qO hw) (Nat.le_add_right _ _);have FW:=R.ech.le;rw[qZ,R.len,fJ] at FW;unfold Reg
 constructor
 ·intro h x hx
  exact(DU R.ech).1 (by omega) x ((R.ker M.length (Nat.le_add_right _ _) x).2 ((O9 hw x).2 hx))
 ·intro h
  have:=(DU R.ech).2 fun x hx=>h x ((O9 hw x).1 ((R.ker M.length (Nat.le_add_right _ _) x).1 hx));omega
theorem WV(hw:∀a∈M,a.length=M.length):(wY M).length=M.length/\∀a∈wY M,a.length=M.length:=by
 have R:=zC (M:=fD M) (cols:=M.length) (qO hw) (Nat.le_add_right _ _);refine⟨by unfold wY;rw[kJ,R.len,fJ],fun a ha=>?_⟩;unfold wY at ha;obtain⟨e,he,rfl⟩:=List.mem_map.1 ha;rw[G5,R.wid e he];omega
def o0(M:List (List Rat))(b:Fn):Fn:=fun t=>a_ M.length (vf ((wY M).getD t [])) b
theorem aBE(hw:∀a∈M,a.length=M.length)(hr:Reg M)(b:Fn)(hi:M[i]?=some a):a_ M.length (vf a) (o0 M b)=b i:=by
 have R:=zC (M:=fD M) (cols:=M.length) (qO hw) (Nat.le_add_right _ _);have FW:=R.ech.le;rw[qZ,R.len,fJ] at FW;have tN:(jK (fD M) M.length).2.length=M.length:=by unfold Reg at hr;omega
 have FY:=(c_.1 hi).1;obtain⟨x,hx⟩:∃x:Fn,x=fun j=>if j<M.length then o0 M b j else -(b (j-M.length)):=⟨_,rfl⟩;have CK:∀j,j<M.length->x j=o0 M b j:=fun j hj=>by rw[hx];simp only;rw[if_pos hj]
 have xV:∀j,x (M.length+j)=-(b j):=fun j=>by rw[hx];simp only;rw[if_neg (by omega),Nat.add_sub_cancel_left]
 have hk:TW (M.length+M.length) (yW (jK (fD M) M.length).1) x:=by
  rw[oY];intro t e ht;have htl:=(c_.1 ht).1;rw[R.len,fJ] at htl;obtain⟨p,hp⟩:∃p,(jK (fD M) M.length).2[t]?=some p:=eG (by omega);have hpt:=OT R.ech.inc R.ech.lt tN hp;subst hpt;have CY:=R.ech.one p p (vf e) hp (kD ht);have aLF:∀j,j<M.length->j≠p->vf e j=0:=fun j hj cK=>by
   obtain⟨q,hq⟩:∃q,(jK (fD M) M.length).2[j]?=some q:=eG (by omega);have:=OT R.ech.inc R.ech.lt tN hq;subst this;exact R.ech.zer q q p (vf e) hq (kD ht) (fun h=>cK h.symm)
  unfold a_;rw[qH];have h1:aP M.length (fun j=>vf e j*x j)=o0 M b p:=by
   rw[dR htl (fun j hj cK=>by rw[aLF j hj cK,Rat.zero_mul]),CY,Rat.one_mul,CK p htl]
  have h2:aP M.length (fun j=>vf e (M.length+j)*x (M.length+j))=-(o0 M b p):=by
   have h3:(wY M).getD p []=e.drop M.length:=by
    unfold wY;rw[dQ,pL,ht];rfl
   unfold o0 a_;rw[h3,show ∀z:Rat,-z=(-1)*z from fun z=>by grind,<-eC];refine aO fun j hj=>?_;rw[xV,aAU];grind
  rw[h1,h2];grind
 have yK:=(R.ker _ lR x).1 hk;rw[oY] at yK;have h0:=yK i _ (rJ hi);unfold a_ at h0;rw[qH] at h0;have DB:=hw a (cS hi);have h1:aP M.length (fun j=>vf (a++l7 M.length i) j*x j)=a_ M.length (vf a) (o0 M b):=
  aO fun j hj=>by rw[UE (by omega),CK j hj]
 have h2:aP M.length (fun j=>vf (a++l7 M.length i) (M.length+j)*x (M.length+j))=-(b i):=by
  rw[dR FY (fun j hj cK=>by
   have:=OC (a:=a) (b:=l7 M.length i) (j:=j);rw[DB] at this;rw[this,OB hj,if_neg cK,Rat.zero_mul])]
  have:=OC (a:=a) (b:=l7 M.length i) (j:=i);rw[DB] at this;rw[this,OB FY,if_pos rfl,Rat.one_mul,xV]
 rw[h1,h2] at h0;grind
end
end
