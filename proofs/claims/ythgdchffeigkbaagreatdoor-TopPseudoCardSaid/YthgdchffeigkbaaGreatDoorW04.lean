import Derived.Test.YthgdchffeigkbaaGreatDoorW01
import Derived.Test.YthgdchffeigkbaaGreatDoorW02
import Derived.Lib.AppendStr
import Derived.Lib.ItoaMem
import Derived.Lib.AppendIntMem
import Derived.Deep.AppendSrc
import Derived.Deep.Upon
import Derived.Deep.DeepAppendWide
import Derived.Lib.Mul64
import Derived.Laws.Bits64b
import Derived.Laws.CopyOwn
import Derived.Deep.OwnRows
import Derived.Deep.RegionLaw
import Derived.StillTailTactics
import Derived.Deep.LoopGhost
set_option linter.unusedVariables false
set_option linter.unusedSimpArgs false
namespace Go.Proofs.YthgdchffeigkbaaGreatDoor
set_option maxHeartbeats 8000000
set_option maxRecDepth 100000
variable {A : OA} {B N base c e g i j k n r s size u : Nat} {M0 : List (List Rat)} {R a row : List Rat} {d f x : Rat} {m : Int} {out : List Int} {piv : List Nat} {v : Value} {w w' : World} {xs : List Value}
section
open Go.ChangeShapes Go.WideShapes Go.ChangeAt Go.RowKit
attribute [local go_sem ↓] aE
attribute [local go_sem] aL aK aO
theorem PP:(Tryz.prog.info? 233).map (·.size)=some 2:=by kernel_rfl
theorem aEe:liesAt Tryz.prog Tryz.prog.depth 233 (2 / Tryz.prog.cellsOf 233) 0 233 1=true:=by kernel_rfl
theorem aA2:(Tryz.prog.info? 5).map (fun i=>(i.zero,i.size,i.bytes))=some (some (.int .u8 0),1,1):=by kernel_rfl
theorem aBx(b:Nat)(w:Wo)(h0:w.cell? ⟨b,0,none⟩=some (.pointer (some ⟨b,0,none⟩))):Calls Tryz.prog 172 #[.pointer (some ⟨b,0,none⟩)] w fun e w'=>e=.returned (.tuple #[])/\w'=w:=by
 obtain⟨j,hj,_⟩:=Option.map_eq_some_iff.1 PP;go_enter Tryz.func172,Tryz.ntmps172
 go_wp2
 rw[Lib.run_neq_ptr_same w _ Tryz.underlying230 hj]
 go_wp2
 go_end0
 exact⟨rfl,rfl⟩
theorem WB(b:Nat)(w:Wo)(h0:w.cell? ⟨b,0,none⟩=some (.pointer none))(hsh:w.shape? b=some (233,2))(hfz:w.frozen? ⟨b,0,none⟩=false):Calls Tryz.prog 172 #[.pointer (some ⟨b,0,none⟩)] w fun e w'=>e=.returned (.tuple #[])/\w'=w.setCell ⟨b,0,none⟩ (.pointer (some ⟨b,0,none⟩)):=by
 obtain⟨j,hj,hjs⟩:=Option.map_eq_some_iff.1 PP;go_enter Tryz.func172,Tryz.ntmps172
 go_wp2
 rw[Lib.run_to_unsafe w ⟨b,0,none⟩ Tryz.underlying230 Tryz.underlying271 hj (by rw[hjs];decide) hsh (Nat.zero_lt_succ 1)];simp only[Result.andThen];rw[Oper.upon_value]
 go_wp2
 rw[run_callFunc_extern Tryz.func191 (by kernel_rfl) (by kernel_rfl) (by kernel_rfl) (e:=Extern.AbiNoEscape.same) (by kernel_rfl)];rw[Lib.run_noEscape];simp only[Result.andThen];rw[Oper.upon_value]
 go_wp2
 rw[Lib.run_from_unsafe w ⟨b,0,none⟩ Tryz.underlying271 Tryz.underlying230 hj hsh aEe];simp only[Result.andThen];rw[Oper.upon_value]
 go_wp2
 go_end0
 exact⟨rfl,rfl⟩
theorem aFW(B b:Nat)(bs:List Value)(w:Wo)(h:Lib.IsBuilder 233 5 B b bs w):Calls Tryz.prog 172 #[.pointer (some ⟨b,0,none⟩)] w fun e w'=>e=.returned (.tuple #[])/\(Lib.BuilderAt 233 5 B b (.pointer (some ⟨b,0,none⟩)) bs w'/\Below B w w'):=by
 rcases h with h | h
 ·refine(WB b w h.cell0 h.shape h.frozen0).mono ?_
  rintro e w' ⟨rfl,rfl⟩;exact⟨rfl,h.used _,(Below.refl B w).setCell (p:=⟨b,0,none⟩) h.1 _⟩
 ·refine(aBx b w h.cell0).mono ?_
  rintro e w' ⟨rfl,rfl⟩;exact⟨rfl,h,Below.refl B _⟩
theorem B_(B b:Nat)(bs:List Value)(s:ByteArray)(w:Wo)(h:Lib.IsBuilder 233 5 B b bs w)(d8:bs.length+s.size<=140737488355328)(hBw:B<=w.heap.size):Calls Tryz.prog 152 #[.pointer (some ⟨b,0,none⟩),.string s] w fun e w'=>(∃v,e=.returned v)/\Lib.BuilderAt 233 5 B b (.pointer (some ⟨b,0,none⟩)) (bs++Lib.strCells s) w'/\Below B w w':=by
 obtain⟨i0,hi,qY,kF,kE⟩:=info_parts aA2;have H:=lH h;clear h;go_enter Tryz.func152,Tryz.ntmps152
 go_wp2_with fail
 refine(aFW B b bs w H.o).mono ?_;rintro e w1 ⟨rfl,h1,bO⟩;obtain⟨hB,v,AT,aW,cG⟩:=h1;have c0:w1.cell? ⟨b,0,none⟩=some (.pointer (some ⟨b,0,none⟩)):=by rw[Lib.cell_of_heap AT];rfl
 have c1:w1.cell? ⟨b,1,none⟩=some v:=by rw[Lib.cell_of_heap AT];rfl
 go_wp2_with (at_builtin;refine Lib.wpList_append_own_string _ rfl _ _ 231 9 rfl B 5 i0 Tryz.underlying231 Tryz.underlying9 hi qY kF kE _ _ _ rfl aW s rfl ?c3 ?c4 ?c5 ?_)
 case c3=>unfold maxLen;omega
 case c4=>omega
 case c5=>have:=bO.size;omega
 intro v' w2 hown' hgrow _;have aR:b<w1.heap.size:=by
  rcases Nat.lt_or_ge b w1.heap.size with h' | h'
  ·exact h'
  ·simp[Array.getElem?_eq_none h'] at AT
 have bH:w2.heap[b]?=some (.cells #[.pointer (some ⟨b,0,none⟩),v] 233 (0,0)):=by
  rw[hgrow.block b aR (fun e=>cG e.symm)];exact AT
 have d0:w2.cell? ⟨b,0,none⟩=some (.pointer (some ⟨b,0,none⟩)):=by rw[Lib.cell_of_heap bH];rfl
 have d1:w2.cell? ⟨b,1,none⟩=some v:=by rw[Lib.cell_of_heap bH];rfl
 have f1:w2.frozen? ⟨b,1,none⟩=false:=Lib.frozen_of_heap bH 1;obtain⟨ao,n',cap,rfl⟩:∃ao n' cap,v'=.slice ao n' cap:=by
  rcases hown'.2 with⟨hv,_⟩ | ⟨g,cap,cur,hv,_⟩
  ·exact⟨_,_,_,hv⟩
  ·exact⟨_,_,_,hv⟩
 go_wp2
 go_ret2;refine⟨⟨_,rfl⟩,?_,?_⟩
 ·exact Lib.BuilderAt.put (T:=233) (e:=5) hB bH (bs':=bs++Lib.strCells s) (by simpa[Lib.strCells_length] using hown') (by decide)
 ·exact(bO.grown hgrow (by have:=bO.size;omega) (fun k hk=>(aW.lt k hk).1)).setCell (p:=⟨b,1,none⟩) hB _
end
section
open Go.ChangeShapes Go.WideShapes Go.ChangeAt Go.RowKit Go.Sort Go.Lib Go.Joins
attribute [local go_sem ↓] aE
attribute [local go_sem] aL aK aO
def fL(w : World): Prop := Lib.TabIs Tryz.prog w "internal/strconv.uint64pow10" .u64 Lib.pow10Tab
theorem fL.up(h : fL w)(hb : Below w.heap.size w w'): fL w' := tab_stays (show Tryz.prog.globalNamed "internal/strconv.uint64pow10" = some 1 by kernel_rfl) h hb lR
theorem aWF(w:Wo)(o:Obj)(dk:Array UInt8)(k:Nat):∃os,(putRow (fun(b:UInt8)=>Value.int .u8 (b.toNat:Int)) (w.alloc o) w.heap.size 0 dk).drewN k=grow (w.drewN k) os:=by
 rw[alloc_eq_grow];obtain⟨os',_,e⟩:=putRow_grow_new (fun(b:UInt8)=>Value.int .u8 (b.toNat:Int)) w #[o] w.heap.size 0 dk lR;exact⟨os',by rw[e];rfl⟩
theorem aMc(w:Wo)(T:TypeId)(nd:Nat)(hs:nd<=24):Holds (fun(b:UInt8)=>Value.int .u8 (b.toNat:Int)) (w.alloc (.cells Lib.zeros24 T)) w.heap.size 0 (Array.replicate nd (0:UInt8)):=fun j hj=>by
 have hj':j<nd:=by simpa using hj
 refine⟨?_,World.frozen?_alloc_new _ _ _ _⟩;rw[World.cell?_alloc_new,Lib.zeros24_at _ (by omega),getElem!_pos _ j hj];simp
theorem aEq(u:Nat)(VC:u<18446744073709551616)(w:Wo)(ht:fL w):Calls Tryz.prog 171 #[.int .u64 u,.int .i64 10] w fun e w'=>e=.returned (.string ⟨(Lib.decDigits u).toArray⟩)/\Below w.heap.size w w':=by
 have HT:=lH ht;clear ht;by_cases hs:u<100
 ·go_enter Tryz.func171,Tryz.ntmps171
  (go_wp2_with fail);refine(Tryz.internal_strconv_small u hs w).mono ?_;rintro e w' ⟨rfl,rfl⟩;(go_wp2_with fail);go_ret;exact⟨rfl,bR⟩
 ·have hu1:1<=u:=by omega
  have aZ4:Lib.nDigits u<=20:=by have:=Lib.numDigits_eq u hu1 VC;split at this<;>omega
  have uH:Tryz.prog.arrayLen 253=24:=by simp[Program.arrayLen,Tryz.underlying253]
  have aIG:∀W,(Instr.sliceAt 253 (.pointer (some ⟨w.heap.size,0,none⟩)) none (some (.int .i64 (Lib.nDigits u:Int))) none).run Tryz.prog W=.ok (.slice (some ⟨w.heap.size,0,none⟩) (Lib.nDigits u) 24) W:=fun W=>by
   rw[run_sliceAt_array_h W 253 ⟨w.heap.size,0,none⟩ (by simp[Program.arrayLen,Program.elem,Tryz.underlying253]) .i64 (Lib.nDigits u:Int) (by omega) (by rw[uH];omega)];go_simp
  have hH0:=aMc w 253 (Lib.nDigits u) (by omega);have aME:=Tryz.internal_strconv_formatBase10 w.heap.size 0 24 u (Array.replicate (Lib.nDigits u) 0) (w.alloc (.cells Lib.zeros24 253)) hH0 (by rw[Array.size_replicate];exact Lib.lt_pow_nDigits u) VC (by rw[Array.size_replicate];omega);rw[Array.size_replicate] at aME;have HH0:=lH hH0;have HF:=lH aME;clear hH0 uH aME;go_enter Tryz.func171,Tryz.ntmps171
  (go_wp2_with fail);refine(Tryz.internal_strconv_numDigits u hu1 VC _ (Lib.tabIs_alloc HT.o (.cells Lib.zeros24 253))).mono ?_;rintro e w1 ⟨rfl,rfl⟩;(go_wp2_with fail);refine HF.o.mono ?_;rintro e w' ⟨rfl,k,v',dk,rfl,hF⟩;have VM:(convert 231 9 (.slice (some ⟨w.heap.size,0,none⟩) (Lib.nDigits u) 24)).run Tryz.prog ((putRow (fun(b:UInt8)=>Value.int .u8 (b.toNat:Int)) (w.alloc (.cells Lib.zeros24 253)) w.heap.size 0 dk).drewN k)=.ok (.string ⟨(Lib.decDigits u).toArray⟩) ((putRow (fun(b:UInt8)=>Value.int .u8 (b.toNat:Int)) (w.alloc (.cells Lib.zeros24 253)) w.heap.size 0 dk).drewN k):=by
   have h:=run_convert_bytes_back (P:=Tryz.prog) ((putRow (fun(b:UInt8)=>Value.int .u8 (b.toNat:Int)) (w.alloc (.cells Lib.zeros24 253)) w.heap.size 0 dk).drewN k) 231 9 5 ⟨w.heap.size,0,none⟩ 24 (Lib.decDigits u) Tryz.underlying231 Tryz.underlying5 Tryz.underlying9 (fun j hj=>by
    rw[Lib.row_is_numeral hF j hj,Lib.add_plain,World.cell?_drewN];exact cell?_putRow (fun(b:UInt8)=>Value.int .u8 (b.toNat:Int)) _ w.heap.size 0 _ dk HH0.o (by rw[hF.size,Array.size_replicate]) j (by rw[hF.size];rw[Lib.decDigits_length] at hj;exact hj))
   rw[Lib.decDigits_length] at h;exact h
  have aMG:(convert 231 9 (.slice (some ⟨w.heap.size,0,none⟩) (Lib.nDigits u) 24)).run Tryz.prog (putRow (fun(b:UInt8)=>Value.int .u8 (b.toNat:Int)) (w.alloc (.cells Lib.zeros24 253)) w.heap.size 0 dk)=.ok (.string ⟨(Lib.decDigits u).toArray⟩) (putRow (fun(b:UInt8)=>Value.int .u8 (b.toNat:Int)) (w.alloc (.cells Lib.zeros24 253)) w.heap.size 0 dk):=by
   have h:=run_convert_bytes_back (P:=Tryz.prog) (putRow (fun(b:UInt8)=>Value.int .u8 (b.toNat:Int)) (w.alloc (.cells Lib.zeros24 253)) w.heap.size 0 dk) 231 9 5 ⟨w.heap.size,0,none⟩ 24 (Lib.decDigits u) Tryz.underlying231 Tryz.underlying5 Tryz.underlying9 (fun j hj=>by
    rw[Lib.row_is_numeral hF j hj,Lib.add_plain];exact cell?_putRow (fun(b:UInt8)=>Value.int .u8 (b.toNat:Int)) _ w.heap.size 0 _ dk HH0.o (by rw[hF.size,Array.size_replicate]) j (by rw[hF.size];rw[Lib.decDigits_length] at hj;exact hj))
   rw[Lib.decDigits_length] at h;exact h
  obtain⟨os,eo⟩:=aWF w (.cells Lib.zeros24 253) dk k;have HEO:=lH eo;clear eo;(go_wp2_with fail);go_ret;exact⟨rfl,by rw[HEO.o];exact Lib.below_grow w.heap.size w lR k os⟩
theorem aI_(u:Nat)(VC:u<18446744073709551616)(w:Wo)(ht:fL w):Calls Tryz.prog 151 #[.int .u64 u,.int .i64 10] w fun e w'=>e=.returned (.string ⟨(Lib.decDigits u).toArray⟩)/\Below w.heap.size w w':=by
 have HT:=lH ht;clear ht;go_enter Tryz.func151,Tryz.ntmps151
 go_wp2_with fail
 refine(aEq u VC w HT.o).mono ?_;rintro e w' ⟨rfl,hb⟩;have HB:=lH hb;clear hb
 go_wp2_with fail
 go_ret;exact⟨rfl,HB.o⟩
end
section
open Go.ChangeShapes Go.WideShapes Go.ChangeAt Go.RowKit
section
variable {P:Program}
end
theorem aDM(h:w.ownsRow base e size v n xs)(hb:Below w.heap.size w w'):w'.ownsRow base e size v n xs:=by
 refine⟨h.1,?_⟩;rcases h.2 with h1 | ⟨g,cap,cur,h1,h2,h3,h4⟩
 ·exact .inl h1
 ·refine .inr ⟨g,cap,cur,h1,h2,?_,h4⟩
  exact(hb.block g (Array.getElem?_eq_some_iff.1 h3).1).trans h3
theorem aDL(w:Wo)(base e size:Nat):w.ownsRow base e size (.slice none 0 0) 0 []:=⟨by simp,.inl ⟨rfl,rfl⟩⟩
theorem oV(h:w.ownsRow base e size v n xs):∃A c,v=.slice A n c/\Rd w w.heap.size size A n xs/\n<=c/\c<=maxLen/\(0<n->∃b off,A=some ⟨b,off,none⟩/\base<=b):=by
 have hl:=h.1;rcases h.2 with⟨h1,h2⟩ | ⟨g,cap,cur,h1,h2,h3,h4,h5,h6,h7⟩
 ·subst h2
  exact⟨none,0,h1,⟨hl,fun h=>by omega⟩,lR,by simp[maxLen],fun h=>by omega⟩
 ·refine⟨some ⟨g,0,none⟩,cap,h1,⟨hl,fun _=>⟨g,0,rfl,(Array.getElem?_eq_some_iff.1 h3).1,fun j u hu=>?_⟩⟩,h4,h5,fun _=>⟨g,0,rfl,h2⟩⟩
  have hb:aD w g e cur:=h3;rw[Nat.zero_add,hb.cell j];rw[<-h7] at hu;have hj:=(cY.1 hu).1;rw[jN] at hj;rw[List.getElem?_take_of_lt (by omega)] at hu;simpa using hu
def bB(S:Value->Prop)(w:Wo)(base:Nat)(e:TypeId)(size:Nat)(v:Value)(n:Nat)(xs:List Value):Prop:=
 xs.length=n*size/\((v=.slice none 0 0/\n=0)\/∃g cap cur,v=.slice (some ⟨g,0,none⟩) n cap/\base<=g/\aD w g e cur/\n<=cap/\cap<=maxLen/\cur.size=cap*size/\cur.toList.take (n*size)=xs/\∀u∈cur.toList,S u)
structure dU (S:Value->Prop) (base:Nat) (e:TypeId) (w w':Wo):Prop where
 low:Below base w w'
 size:w.heap.size<=w'.heap.size
 cell:∀p u,w.cell? p=some u->¬S u->w'.cell? p=some u
 blk:∀b t cs,aD w b t cs->t≠e->aD w' b t cs
section
variable {S:Value->Prop} {w w':Wo} {base e size n:Nat} {v:Value} {xs:List Value}
theorem bB.own(h:bB S w base e size v n xs):w.ownsRow base e size v n xs:=by
 refine⟨h.1,?_⟩;rcases h.2 with h1 | ⟨g,cap,cur,h1,h2,h3,h4,h5,h6,h7,_⟩
 ·exact .inl h1
 ·exact .inr ⟨g,cap,cur,h1,h2,h3,h4,h5,h6,h7⟩
theorem bB.keep(h:bB S w base e size v n xs)(hb:Below w.heap.size w w'):bB S w' base e size v n xs:=by
 refine⟨h.1,?_⟩;rcases h.2 with h1 | ⟨g,cap,cur,h1,h2,h3,h4⟩
 ·exact .inl h1
 ·exact .inr ⟨g,cap,cur,h1,h2,h3.bl hb,h4⟩
theorem dI(S:Value->Prop)(w:Wo)(base e size:Nat):bB S w base e size (.slice none 0 0) 0 []:=⟨by simp,.inl ⟨rfl,rfl⟩⟩
theorem dU.old(h:∀i,i<w.heap.size->w'.heap[i]?=w.heap[i]?)(hs:w.heap.size<=w'.heap.size)(ho:w'.os=w.os)(ht:w'.tape=w.tape)(hp:w'.output=w.output)(hbs:base<=w.heap.size):dU S base e w w':=
 ⟨⟨ho,ht,hp,hs,fun i hi=>h i (kA hi hbs)⟩,hs,fun p u hu _=>(World.cell?_of_block (h _ (World.block_lt_of_cell? w p hu))).trans hu,fun b t cs hb _=>(h b hb.lt).trans hb⟩
theorem aCN{z:Array Value}{u:Value}(h:u∈(Builtin.zeroCells z k).toList):u∈z.toList:=by
 unfold Builtin.zeroCells at h;rw[Array.mem_toList_iff,Array.mem_map] at h;obtain⟨i,hi,rfl⟩:=h;rw[Array.mem_range] at hi;have hz:0<z.size:=by
  rcases Nat.eq_zero_or_pos z.size with e | e
  ·rw[e] at hi;simp at hi
  ·exact e
 have hm:i % z.size<z.size:=Nat.mod_lt _ hz;rw[getElem!_pos z _ hm];exact Array.mem_toList_iff.2 (Array.getElem_mem hm)
end
section
variable {P:Program}
theorem pC{S:Value->Prop}(w:Wo)(base:Nat)(t ty e:TypeId)(i:TypeInfo)(z:Value)(size bytes:Nat)(ht:P.underlying t=some (.slice e))(hi:P.info? e=some i)(hz:i.zero=some z)(iG:i.size=size)(yY:i.bytes=bytes)(JL:z.cells.size=size)(hZ:0<size)(S7:∀u∈z.cells.toList,S u)(v:Value)(n:Nat)(xs:List Value)(aW:bB S w base e size v n xs)(a:Addr)(m c:Nat)(news:List Value)(hl:news.length=m*size)(jH:∀j u,news[j]?=some u->w.cell? (a.add j)=some u)(h1:∀u∈news,u.oneCell'=true/\S u)(uO:n+m<=maxLen)(gX:(n+m)*bytes<=140737488355328)(cD:base<=w.heap.size)(hm:0<m):∃v' w',(Builtin.append_ #[t,t] ty #[v,.slice (some a) m c]).run P w=.ok v' w'/\bB S w' base e size v' (n+m) (xs++news)/\dU S base e w w'/\(v'.ownBlock=v.ownBlock\/v'.ownBlock=some w.heap.size):=by
 subst iG;subst yY;have aL2:n+m<=9223372036854775807:=by simp only[maxLen] at uO;omega
 have d8:(xs++news).length=(n+m)*i.size:=by rw[g_,aW.1,hl,Nat.add_mul]
 have fresh:∀(old:Nat),(∀u∈xs,S u)->
     bB S (w.drew.alloc (.cells (xs.toArray++news.toArray++Builtin.zeroCells z.cells (grownCap w (n+m) old e-(n+m))) e)) base e i.size (.slice (some ⟨w.heap.size,0,none⟩) (n+m) (grownCap w (n+m) old e)) (n+m) (xs++news)/\
     dU S base e w (w.drew.alloc (.cells (xs.toArray++news.toArray++Builtin.zeroCells z.cells (grownCap w (n+m) old e-(n+m))) e)):=by
  intro old hx;have TC:=grownCap_ge w (n+m) old e;refine⟨⟨d8,.inr ⟨w.heap.size,_,_,rfl,cD,aD.new w.drew _ _,TC,grownCap_le_maxLen w (n+m) old e uO,?_,?_,?_⟩⟩,dU.old (fun k hk=>heap_alloc_old w.drew _ hk) (by simp) rfl rfl rfl cD⟩
  ·rw[Array.size_append,Array.size_append,List.size_toArray,List.size_toArray,size_zeroCells,JL,aW.1,hl,<-Nat.add_mul,<-Nat.add_mul,Nat.add_sub_cancel' TC]
  ·rw[Array.toList_append,Array.toList_append,<-d8]
   exact List.take_left
  ·intro u hu
   rw[Array.toList_append,Array.toList_append,List.mem_append,List.mem_append] at hu;rcases hu with(hu | hu) | hu
   ·exact hx u (by simpa using hu)
   ·exact(h1 u (by simpa using hu)).2
   ·exact S7 u (aCN hu)
 rcases aW.2 with⟨rfl,rfl⟩ | ⟨g,cap,cur,rfl,YO,hg,hnc,KD,RF,aEx,hS⟩
 ·have hx:xs=[]:=List.eq_nil_of_length_eq_zero (by simpa using aW.1)
  subst hx;have hr:=run_append_nil (P:=P) w t ty e i z ht hi hz a m c news hl jH hm (by omega) (by have hb:=gX;rw[Nat.zero_add] at hb;omega);obtain⟨f1,f2⟩:=fresh 0 (by simp);simp only[Nat.zero_add,List.nil_append,Array.empty_append] at f1 f2 ⊢;exact⟨_,_,hr,f1,f2,.inr rfl⟩
 ·have hxS:∀u∈xs,S u:=fun u hu=>hS u (List.mem_of_mem_take (by rw[aEx];exact hu))
  by_cases AP:n+m<=cap
  ·have xH:n*i.size+news.length<=cur.size:=by rw[hl,RF,<-Nat.add_mul];exact Nat.mul_le_mul_right _ AP
   have hr:=run_append_room (P:=P) w t ty e i ht hi g n cap cur hg a m c news hl jH (fun u hu=>(h1 u hu).1) AP xH;have Q2:∀k,k≠g->(w.setRow g (cur.toList.take (n*i.size)++news++cur.toList.drop (n*i.size+news.length)).toArray).heap[k]?=w.heap[k]?:=fun k hk=>setRow_other w g k _ hk;refine⟨_,_,hr,⟨d8,.inr ⟨g,cap,_,rfl,YO,setRow_heap w g cur _ e _ hg,AP,KD,?_,?_,?_⟩⟩,⟨⟨rfl,rfl,rfl,by simp,fun k hk=>Q2 k (by omega)⟩,by simp,fun p u hu hn=>?_,fun b t' cs hb cG=>?_⟩,.inl rfl⟩
   ·rw[List.size_toArray,g_,g_,jN,J2,Array.length_toList]
    omega
   ·rw[aEx,<-d8]
    exact List.take_left
   ·intro u hu
    rw[List.mem_append,List.mem_append] at hu;rcases hu with(hu | hu) | hu
    ·exact hS u (List.mem_of_mem_take hu)
    ·exact(h1 u hu).2
    ·exact hS u (List.mem_of_mem_drop hu)
   ·have hpg:p.block≠g:=by
     intro e;obtain⟨b,off,sp⟩:=p;simp only at e;subst e;cases sp with
     | none=>
      have:=hg.cell off;rw[this] at hu;exact hn (hS u (Array.mem_toList_iff.2 (Array.mem_of_getElem? hu)))
     | some s=>
      unfold World.cell? at hu;rw[show w.heap[b]?=some (.cells cur _ (0,0)) from hg] at hu;simp at hu
    exact(World.cell?_of_block (Q2 _ hpg)).trans hu
   ·have aWj:b≠g:=by
     rintro rfl;have h2:some (Obj.cells cs t' (0,0))=some (Obj.cells cur e (0,0)):=hb.symm.trans hg;injection h2 with h2;injection h2 with _ h2;exact cG h2
    exact(Q2 b aWj).trans hb
  ·have holds:∀j u,xs[j]?=some u->w.cell? ((⟨g,0,none⟩:Addr).add j)=some u:=aW.own.cells (g:=g) rfl
   have hr:=run_append_grow (P:=P) w t ty e i z ht hi hz ⟨g,0,none⟩ n cap xs aW.1 holds a m c news hl jH (by omega) (by omega) (growslice_fits (by omega) gX);obtain⟨f1,f2⟩:=fresh cap hxS;exact⟨_,_,hr,f1,f2,.inr rfl⟩
theorem rB{S:Value->Prop}{ops:Array Oper}{rest:List Oper}{o:Oper}{a:Act}{Q:Exit->Act->World->Prop}{w:Wo}{lit:Array Value}{T:TypeId}(yW:o.guard=none)(s x:Operand)(t:TypeId)(ho:o.op=.call { callee:=.builtin .append,args:=#[s,x],argTypes:=#[t,t] })(base:Nat)(e:TypeId)(i:TypeInfo)(z:Value)(size bytes:Nat)(ht:P.underlying t=some (.slice e))(hi:P.info? e=some i)(hz:i.zero=some z)(iG:i.size=size)(yY:i.bytes=bytes)(JL:z.cells.size=size)(hZ:0<size)(S7:∀u∈z.cells.toList,S u)(v:Value)(n:Nat)(xs:List Value)(hs:a.eval s=v)(aW:bB S w base e size v n xs)(hx:a.eval x=.slice (some ⟨w.heap.size,0,none⟩) 1 1)(hl:lit.size=size)(h1:∀u∈lit.toList,u.oneCell'=true/\S u)(uO:n+1<=maxLen)(gX:(n+1)*bytes<=140737488355328)(cD:base<=w.heap.size)(h:∀v' w',bB S w' base e size v' (n+1) (xs++lit.toList)->dU S base e (w.alloc (.cells lit T)) w'->(v'.ownBlock=v.ownBlock\/v'.ownBlock=some (w.heap.size+1))->wpList P ops Q rest (a.put o.dst v') w'):wpList P ops Q (o::rest) a (w.alloc (.cells lit T)):=by
 refine wpList_plain yW fun K hK=>?_;obtain⟨v',w',hr,h2,h3,h4⟩:=pC (P:=P) (w.alloc (.cells lit T)) base t o.type e i z size bytes ht hi hz iG yY JL hZ S7 v n xs (aW.keep (bA)) ⟨w.heap.size,0,none⟩ 1 1 lit.toList (by rw[Array.length_toList,hl,Nat.one_mul]) (fun j u hu=>by
  rw[Addr.add_lit,Nat.zero_add,(aD.new w T lit).cell j];simpa using hu) h1 uO gX (b_ cD (by simp)) (by decide)
 unfold Oper.wp execOp;simp only[ho,resolve,invoke,builtin,Sem.run_bind,Sem.run_pure,Result.andThen_ok,List.map_toArray,List.map_cons,List.map_nil,hs,hx,hr];exact hK _ _ (h v' w' h2 h3 (by simpa using h4))
end
end
section
abbrev Fn:=Nat->Rat
def aM:Nat->Fn->Rat
 | 0,_=>0
 | n+1,f=>aM n f+f n
theorem aJ:∀{n:Nat}{f g:Fn},(∀i,i<n->f i=g i)->aM n f=aM n g
 | 0,_,_,_=>rfl
 | n+1,f,g,h=>by rw[aM,aM,aJ fun i hi=>h i (by omega),h n (by omega)]
theorem cM:∀{n:Nat}{f:Fn},(∀i,i<n->f i=0)->aM n f=0
 | 0,_,_=>rfl
 | n+1,f,h=>by rw[aM,cM fun i hi=>h i (by omega),h n (by omega)];exact Rat.add_zero 0
theorem eR(f g:Fn):∀n:Nat,aM n (fun i=>f i+g i)=aM n f+aM n g
 | 0=>(Rat.add_zero 0).symm
 | n+1=>by rw[aM,aM,aM,eR f g n];grind
theorem bL(c:Rat)(f:Fn):∀n:Nat,aM n (fun i=>c*f i)=c*aM n f
 | 0=>(Rat.mul_zero c).symm
 | n+1=>by rw[aM,aM,bL c f n];grind
theorem gH{f:Fn}(hk:k<n)(h:∀i,i<n->i≠k->f i=0):aM n f=f k:=by
 induction n with
 | zero=>omega
 | succ n ih=>
  rw[aM];by_cases hn:k=n
  ·subst hn
   rw[cM fun i hi=>h i (by omega) (by omega),Rat.zero_add]
  ·rw[ih (by omega) (fun i hi AR=>h i (by omega) AR),h n (by omega) (fun e=>hn e.symm),Rat.add_zero]
theorem nD(f:Nat->Nat->Rat)(m:Nat):∀n:Nat,aM n (fun i=>aM m fun j=>f i j)=aM m (fun j=>aM n fun i=>f i j)
 | 0=>by
  rw[aM,cM];intro i _;rfl
 | n+1=>by
  rw[aM,nD f m n,<-eR];rfl
def aV(n:Nat)(a x:Fn):Rat:=aM n fun i=>a i*x i
theorem RS(n:Nat)(a x y:Fn):aV n a (fun i=>x i+y i)=aV n a x+aV n a y:=by
 unfold aV;rw[<-eR];exact aJ fun i _=>by grind
theorem RQ(n:Nat)(a x:Fn)(c:Rat):aV n a (fun i=>c*x i)=c*aV n a x:=by
 unfold aV;rw[<-bL];exact aJ fun i _=>by grind
theorem LX(n:Nat)(a b x:Fn):aV n (fun i=>a i+b i) x=aV n a x+aV n b x:=by
 unfold aV;rw[<-eR];exact aJ fun i _=>by grind
theorem DI(n:Nat)(a x:Fn)(c:Rat):aV n (fun i=>c*a i) x=c*aV n a x:=by
 unfold aV;rw[<-bL];exact aJ fun i _=>by grind
theorem qP{a b x y:Fn}(h:∀i,i<n->a i=b i)(h2:∀i,i<n->x i=y i):aV n a x=aV n b y:=
 aJ fun i hi=>by rw[h i hi,h2 i hi]
theorem aWE:∀(n:Nat)(A:List Fn),A.length<n->∃c:Fn,(∃i,i<n/\c i≠0)/\∀a∈A,aV n a c=0:=by
 intro n
 induction n with
 | zero=>intro A h;omega
 | succ n ih=>
  intro A hA;by_cases xI:∀a∈A,a n=0
  ·refine⟨fun i=>if i=n then 1 else 0,⟨n,by omega,by dsimp only;rw[if_pos rfl];decide⟩,fun a ha=>?_⟩
   unfold aV;refine cM fun i hi=>?_
   by_cases h:i=n
   ·subst h;rw[xI a ha,Rat.zero_mul]
   ·dsimp only;rw[if_neg h,Rat.mul_zero]
  ·obtain⟨R,hR,hRn⟩:∃R∈A,R n≠0:=by
    refine Classical.byContradiction fun hn=>xI fun a ha=>Classical.byContradiction fun h=>hn ⟨a,ha,h⟩
   obtain⟨l1,l2,rfl⟩:=List.append_of_mem hR;obtain⟨c,⟨i,hi,VN⟩,hc⟩:=ih ((l1++l2).map fun a i=>a i+(-(a n / R n))*R i) (by simp at hA ⊢;omega);refine⟨fun i=>if i<n then c i else -(aV n R c / R n),⟨i,by omega,by dsimp only;rw[if_pos hi];exact VN⟩,fun a ha=>?_⟩;have hs:∀a:Fn,aV (n+1) a (fun i=>if i<n then c i else -(aV n R c / R n))=aV n a c+a n*-(aV n R c / R n):=fun a=>by
    have e1:aV n a c=aM n fun i=>a i*(if i<n then c i else -(aV n R c / R n)):=aJ fun i hi=>by rw[if_pos hi]
    rw[e1];show aM n (fun i=>a i*(if i<n then c i else -(aV n R c / R n)))+a n*(if n<n then c n else -(aV n R c / R n))=_;rw[if_neg (Nat.lt_irrefl n)]
   rw[hs];have key:a=R\/a∈l1++l2:=by
    rcases List.mem_append.1 ha with h | h
    ·exact .inr (List.mem_append_left _ h)
    ·rcases List.mem_cons.1 h with h | h
     ·exact .inl h
     ·exact .inr (List.mem_append_right _ h)
   rcases key with rfl | h
   ·grind
   ·have:=hc _ (List.mem_map.2 ⟨a,h,rfl⟩)
    rw[LX,DI] at this;grind
def uQ(n:Nat)(A:List Fn)(x:Fn):Prop:=∀a∈A,aV n a x=0
def R8(c:Fn)(ys:List Fn):Fn:=fun j=>aM ys.length fun i=>c i*(ys.getD i (fun _=>0)) j
theorem R7(n:Nat)(a c:Fn)(ys:List Fn):aV n a (R8 c ys)=aM ys.length fun i=>c i*aV n a (ys.getD i (fun _=>0)):=by
 unfold aV R8;have h1:∀j,j<n->a j*aM ys.length (fun i=>c i*(ys.getD i (fun _=>0)) j)=aM ys.length (fun i=>a j*(c i*(ys.getD i (fun _=>0)) j)):=fun j _=>(bL _ _ _).symm;rw[aJ h1,nD (fun j i=>a j*(c i*(ys.getD i (fun _=>0)) j))];refine aJ fun i _=>?_;rw[<-bL];exact aJ fun j _=>by grind
theorem aFo{ys:List Fn}(hi:i<ys.length):ys.getD i (fun _=>0)∈ys:=by
 rw[dH,gS hi];exact List.getElem_mem hi
theorem R6{A ys:List Fn}(c:Fn)(h:∀y∈ys,uQ n A y):uQ n A (R8 c ys):=fun a ha=>by
 rw[R7];exact cM fun i hi=>by rw[h _ (aFo hi) a ha,Rat.mul_zero]
structure rW (M:List Fn) (piv:List Nat) (k:Nat):Prop where
 le:piv.length<=M.length
 inc:piv.Pairwise (·<·)
 lt:∀p∈piv,p<k
 one:∀(t p:Nat)(a:Fn),piv[t]?=some p->M[t]?=some a->a p=1
 zer:∀(t p i:Nat)(a:Fn),piv[t]?=some p->M[i]?=some a->i≠t->a p=0
 low:∀(t p:Nat)(a:Fn),piv[t]?=some p->M[t]?=some a->∀j,j<p->a j=0
 rest:∀(i:Nat)(a:Fn),M[i]?=some a->piv.length<=i->∀j,j<k->a j=0
namespace rW
variable {A : OA} {B N base c e g i j k n r s size u : Nat} {M0 : List (List Rat)} {R a row : List Rat} {d f x : Rat} {m : Int} {out : List Int} {piv : List Nat} {v : Value} {w w' : World} {xs : List Value}
variable {M:List Fn} {piv:List Nat} {n:Nat}
def free(piv:List Nat)(n:Nat):List Nat:=(List.range n).filter fun j=>!piv.contains j
theorem nodup(E:rW M piv n):piv.Nodup:=E.inc.imp fun h=>Nat.ne_of_lt h
theorem free_len(E:rW M piv n):(free piv n).length+piv.length=n:=by
 have h1:((List.range n).filter fun j=>piv.contains j).length=piv.length:=by
  refine List.Perm.length_eq ((List.perm_ext_iff_of_nodup (List.Pairwise.filter _ List.nodup_range) E.nodup).2 fun a=>?_);rw[List.mem_filter,List.mem_range]
  constructor
  ·intro h;simpa using h.2
  ·intro h;exact⟨E.lt a h,by simpa using h⟩
 have h2:=List.length_eq_countP_add_countP (fun j=>piv.contains j) (l:=List.range n);rw[List.length_range,List.countP_eq_length_filter,List.countP_eq_length_filter,h1] at h2;unfold free;have h3:((List.range n).filter fun j=>!piv.contains j)=((List.range n).filter fun a=>decide ¬piv.contains a=true):=by
  congr 1
  funext j
  cases piv.contains j<;>rfl
 rw[h3];omega
theorem mem_free:j∈free piv n<->j<n/\j∉piv:=by
 unfold free;rw[List.mem_filter,List.mem_range];simp
theorem ker_zero(E:rW M piv n){z:Fn}(hz:uQ n M z)(hf:∀j,j<n->j∉piv->z j=0):∀j,j<n->z j=0:=by
 intro j hj;by_cases hp:j∈piv
 ·obtain⟨t,ht⟩:=List.mem_iff_getElem?.1 hp
  have QX:=(cY.1 ht).1;obtain⟨a,ha⟩:∃a,M[t]?=some a:=⟨_,gS (kA QX E.le)⟩;have h:=hz a (bS ha);unfold aV at h;rw[gH hj,E.one t j a ht ha,Rat.one_mul] at h
  ·exact h
  ·intro i hi uA
   by_cases hip:i∈piv
   ·obtain⟨s,hs⟩:=List.mem_iff_getElem?.1 hip
    rw[E.zer s i t a hs ha (fun e=>by subst e;rw[ht] at hs;injection hs with hs;exact uA hs.symm),Rat.zero_mul]
   ·rw[hf i hi hip,Rat.mul_zero]
 ·exact hf j hj hp
def bas(M:List Fn)(piv:List Nat)(c:Nat):Fn:=fun j=>if j=c then 1 else match piv.findIdx? (· == j) with
 | some t=>-((M.getD t (fun _=>0)) c)
 | none=>0
theorem bas_free(hj:j∉piv):bas M piv c j=if j=c then 1 else 0:=by
 unfold bas;by_cases h:j=c
 ·rw[if_pos h,if_pos h]
 ·rw[if_neg h,if_neg h]
  have:piv.findIdx? (· == j)=none:=List.findIdx?_eq_none_iff.2 fun x hx=>by
   have:x≠j:=fun e=>hj (e▸hx);simpa using this
  rw[this]
theorem bas_piv(E:rW M piv n){t p:Nat}{a:Fn}(hc:c∉piv)(ht:piv[t]?=some p)(ha:M[t]?=some a):bas M piv c p=-(a c):=by
 unfold bas;have hp:=bS ht;rw[if_neg (fun e:p=c=>hc (by rw[<-e];exact hp))];have:piv.findIdx? (· == p)=some t:=by
  rw[List.findIdx?_eq_some_iff_getElem];obtain⟨hl,he⟩:=cY.1 ht;refine⟨hl,by simp[he],fun j hj=>?_⟩;have h1:=(List.pairwise_iff_getElem.1 E.inc) j t (by omega) hl hj;rw[he] at h1;simp;omega
 rw[this];simp only;rw[dH,ha];rfl
theorem bas_ker(E:rW M piv n)(hc:c<n)(hcp:c∉piv):uQ n M (bas M piv c):=by
 intro a ha;obtain⟨i,hi⟩:=List.mem_iff_getElem?.1 ha;by_cases hr:piv.length<=i
 ·unfold aV
  exact cM fun j hj=>by rw[E.rest i a hi hr j hj,Rat.zero_mul]
 ·obtain⟨p,hp⟩:∃p,piv[i]?=some p:=eE (by omega)
  have hpn:=E.lt p (bS hp);have hpc:p≠c:=fun e=>hcp (e▸bS hp);have key:∀j,j<n->a j*bas M piv c j=(if j=c then a c else 0)+(if j=p then -(a c) else 0):=fun j hj=>by
   by_cases hjp:j∈piv
   ·obtain⟨s,hs⟩:=List.mem_iff_getElem?.1 hjp
    have hjc:j≠c:=fun e=>hcp (e▸hjp);rw[if_neg hjc]
    by_cases hji:j=p
    ·subst hji
     rw[if_pos rfl,E.one i j a hp hi,E.bas_piv hcp hp hi,Rat.one_mul,Rat.zero_add]
    ·rw[if_neg hji,E.zer s j i a hs hi (fun e=>by subst e;rw[hp] at hs;injection hs with hs;exact hji hs.symm),Rat.zero_mul,Rat.add_zero]
   ·rw[bas_free hjp]
    have hji:j≠p:=fun e=>hjp (e▸bS hp);rw[if_neg hji,Rat.add_zero]
    by_cases h:j=c
    ·subst h;rw[if_pos rfl,if_pos rfl,Rat.mul_one]
    ·rw[if_neg h,if_neg h,Rat.mul_zero]
  unfold aV;rw[aJ key,eR,gH (k:=c) hc (fun i _ h=>if_neg h),gH (k:=p) hpn (fun i _ h=>if_neg h),if_pos rfl,if_pos rfl];exact Rat.add_neg_cancel _
def basis(M:List Fn)(piv:List Nat)(n:Nat):List Fn:=(free piv n).map (bas M piv)
theorem basis_ker(E:rW M piv n):∀y∈basis M piv n,uQ n M y:=fun y hy=>by
 obtain⟨c,hc,rfl⟩:=List.mem_map.1 hy;obtain⟨h1,h2⟩:=mem_free.1 hc;exact E.bas_ker h1 h2
theorem basis_len(E:rW M piv n):(basis M piv n).length+piv.length=n:=by
 unfold basis;rw[iT];exact E.free_len
theorem dim(E:rW M piv n)(ys q:List Fn)(h:n-piv.length+q.length<ys.length):∃c:Fn,(∃i,i<ys.length/\c i≠0)/\(∀f∈q,aV n f (R8 c ys)=0)/\∀j,j<n->j∉piv->R8 c ys j=0:=by
 have hl:=E.free_len;obtain⟨c,hc,hA⟩:=aWE ys.length ((free piv n).map (fun j i=>(ys.getD i (fun _=>0)) j)++q.map (fun f i=>aV n f (ys.getD i (fun _=>0)))) (by simp;omega);refine⟨c,hc,fun f hf=>?_,fun j hj hjp=>?_⟩
 ·rw[R7]
  have:=hA _ (List.mem_append_right _ (List.mem_map.2 ⟨f,hf,rfl⟩));unfold aV at this;refine Eq.trans ?_ this;exact aJ fun i _=>by rw[Rat.mul_comm];rfl
 ·have:=hA _ (List.mem_append_left _ (List.mem_map.2 ⟨j,mem_free.2 ⟨hj,hjp⟩,rfl⟩))
  unfold aV at this;unfold R8;refine Eq.trans ?_ this;exact aJ fun i _=>by dsimp only;rw[Rat.mul_comm]
theorem comb_basis(E:rW M piv n)(c:Fn)(hj:(free piv n)[i]?=some j):R8 c (basis M piv n) j=c i:=by
 have hjm:=bS hj;obtain⟨h1,h2⟩:=mem_free.1 hjm;have yV:=(cY.1 hj).1;have hnd:(free piv n).Nodup:=List.Pairwise.filter _ List.nodup_range;have hb:∀s,s<(free piv n).length->((basis M piv n).getD s (fun _=>0)) j=if s=i then 1 else 0:=fun s hs=>by
  unfold basis;rw[dH,lT,gS hs];simp only[Option.map_some,Option.getD_some];rw[bas_free h2];obtain⟨_,he⟩:=cY.1 hj;by_cases YG:s=i
  ·subst YG;rw[if_pos he.symm,if_pos rfl]
  ·rw[if_neg YG,if_neg]
   intro e;have hpw:=List.pairwise_iff_getElem.1 hnd;rcases Nat.lt_or_gt_of_ne YG with aR | aR
   ·exact hpw s i hs yV aR (by rw[he];exact e.symm)
   ·exact hpw i s yV hs aR (by rw[he];exact e)
 unfold R8;have qL:(basis M piv n).length=(free piv n).length:=by unfold basis;rw[iT]
 rw[qL,gH yV,hb i yV,if_pos rfl,Rat.mul_one];intro s hs YG;rw[hb s hs,if_neg YG,Rat.mul_zero]
end rW
theorem aAz{MA MB:List Fn}{pa pb:List Nat}(EA:rW MA pa n)(EB:rW MB pb n)(h:∀x,uQ n MB x->uQ n MA x):pa.length<=pb.length:=by
 refine Nat.le_of_not_lt fun aR=>?_;have h1:=EB.basis_len;have h2:=EA.free_len;obtain⟨c,⟨i,hi,VN⟩,_,hz⟩:=EA.dim (rW.basis MB pb n) [] (by simp;omega);have hk:=h _ (R6 c EB.basis_ker);have h0:=EA.ker_zero hk hz;have yV:i<(rW.free pb n).length:=by unfold rW.basis at hi;rwa[iT] at hi
 have hj:(rW.free pb n)[i]?=some _:=gS yV;have:=EB.comb_basis c hj;rw[h0 _ (rW.mem_free.1 (bS hj)).1] at this;exact VN this.symm
theorem aAy{MA MB:List Fn}{pa pb:List Nat}(EA:rW MA pa n)(EB:rW MB pb n)(v:Fn)(h:∀x,uQ n MA x->aV n v x=0->uQ n MB x):pb.length<=pa.length+1:=by
 refine Nat.le_of_not_lt fun aR=>?_;have h1:=EA.basis_len;have h2:=EB.free_len;obtain⟨c,⟨i,hi,VN⟩,hv,hz⟩:=EB.dim (rW.basis MA pa n) [v] (by simp;omega);have hk:=h _ (R6 c EA.basis_ker) (hv v (by simp));have h0:=EB.ker_zero hk hz;have yV:i<(rW.free pa n).length:=by unfold rW.basis at hi;rwa[iT] at hi
 have hj:(rW.free pa n)[i]?=some _:=gS yV;have:=EA.comb_basis c hj;rw[h0 _ (rW.mem_free.1 (bS hj)).1] at this;exact VN this.symm
theorem CR{M:List Fn}(E:rW M piv n):piv.length=n<->∀x,uQ n M x->∀j,j<n->x j=0:=by
 have hl:=E.free_len
 constructor
 ·intro h x hx
  refine E.ker_zero hx fun j hj hjp=>?_;have:j∈rW.free piv n:=rW.mem_free.2 ⟨hj,hjp⟩;rw[List.eq_nil_of_length_eq_zero (by omega:(rW.free piv n).length=0)] at this;cases this
 ·intro h
  refine Classical.byContradiction fun cG=>?_;obtain⟨c,hc⟩:∃c,c∈rW.free piv n:=List.exists_mem_of_length_pos (by omega);obtain⟨h1,h2⟩:=rW.mem_free.1 hc;have:=h _ (E.bas_ker h1 h2) c h1;rw[rW.bas_free h2,if_pos rfl] at this;exact absurd this (by decide)
end
section
open Go.ChangeShapes Go.WideShapes Go.ChangeAt Go.RowKit Go.Joins
section
variable {P:Program}
theorem dU.refl(S:Value->Prop)(base:Nat)(e:TypeId)(w:Wo):dU S base e w w:=⟨bR,lR,fun _ _ h _=>h,fun _ _ _ h _=>h⟩
theorem bB.shape{S:Value->Prop}(h:bB S w base e size v n xs):∃A c,v=.slice A n c/\n<=c/\c<=maxLen:=by
 rcases h.2 with⟨h1,h2⟩ | ⟨g,cap,cur,h1,h2,h3,h4,h5,h6⟩
 ·subst h2;exact⟨none,0,h1,lR,by simp[maxLen]⟩
 ·exact⟨_,cap,h1,h4,h5⟩
theorem J3{S:Value->Prop}(w:Wo)(base:Nat)(t ty e:TypeId)(i:TypeInfo)(z:Value)(size bytes:Nat)(ht:P.underlying t=some (.slice e))(hi:P.info? e=some i)(hz:i.zero=some z)(iG:i.size=size)(yY:i.bytes=bytes)(JL:z.cells.size=size)(hZ:0<size)(S7:∀u∈z.cells.toList,S u)(v:Value)(n:Nat)(xs:List Value)(aW:bB S w base e size v n xs)(A:OA)(m c:Nat)(news:List Value)(hr:Rd w w.heap.size size A m news)(h1:∀u∈news,u.oneCell'=true/\S u)(uO:n+m<=maxLen)(gX:(n+m)*bytes<=140737488355328)(cD:base<=w.heap.size):∃v' w',(Builtin.append_ #[t,t] ty #[v,.slice A m c]).run P w=.ok v' w'/\bB S w' base e size v' (n+m) (xs++news)/\dU S base e w w'/\(v=.slice none 0 0->Below w.heap.size w w'/\bB S w' w.heap.size e size v' (n+m) (xs++news))/\(v'.ownBlock=v.ownBlock\/v'.ownBlock=some w.heap.size):=by
 rcases Nat.eq_zero_or_pos m with rfl | h0
 ·have hn:news=[]:=List.eq_nil_of_length_eq_zero (by simpa using hr.1)
  subst hn;obtain⟨A1,c1,rfl,hc,VP⟩:=aW.shape;have q_:Src P i.size t (.slice A 0 c) 0 [] w:=by
   cases A with
   | none=>exact Src.ofNil w ht c
   | some ad=>exact Src.ofSlice w ht ad 0 c [] (by simp) (fun j u hu=>by simp at hu) (fun u hu=>by cases hu)
  refine⟨_,w,run_append_nothing (P:=P) w t t ty e i ht hi A1 n c1 hc (.slice A 0 c) q_,by rw[List.append_nil];exact aW,dU.refl _ _ _ _,fun hv=>⟨bR,?_⟩,.inl rfl⟩;injection hv with a1 a2 a3;subst a1;subst a2;subst a3;rw[List.append_nil];exact⟨aW.1,.inl ⟨rfl,rfl⟩⟩
 ·obtain⟨b,off,rfl,hb,hc⟩:=hr.2 h0
  by_cases hv:v=.slice none 0 0
  ·subst hv
   have o8:bB S w w.heap.size e size (.slice none 0 0) n xs:=by
    refine⟨aW.1,?_⟩;rcases aW.2 with h | ⟨g,cap,cur,h,_⟩
    ·exact .inl h
    ·cases h
   obtain⟨v',w',g1,g2,g3,g4⟩:=pC (P:=P) w w.heap.size t ty e i z size bytes ht hi hz iG yY JL hZ S7 _ n xs o8 ⟨b,off,none⟩ m c news hr.1 (fun j u hu=>by rw[Addr.add_lit];exact hc j u hu) h1 uO gX lR h0;refine⟨v',w',g1,⟨g2.1,?_⟩,⟨⟨g3.low.os,g3.low.tape,g3.low.output,g3.low.size,fun k hk=>g3.low.block k (kA hk cD)⟩,g3.size,g3.cell,g3.blk⟩,fun _=>⟨g3.low,g2⟩,g4⟩;exact g2.2.imp id fun⟨g,cap,cur,k1,k2,k3⟩=>⟨g,cap,cur,k1,b_ cD k2,k3⟩
  ·obtain⟨v',w',g1,g2,g3,g4⟩:=pC (P:=P) w base t ty e i z size bytes ht hi hz iG yY JL hZ S7 v n xs aW ⟨b,off,none⟩ m c news hr.1 (fun j u hu=>by rw[Addr.add_lit];exact hc j u hu) h1 uO gX cD h0
   exact⟨v',w',g1,g2,g3,fun h=>absurd h hv,g4⟩
theorem XJ{S:Value->Prop}{o:Oper}{a:Act}{w:Wo}{K:Act->World->Prop}{Q:Exit->Act->World->Prop}(s x:Operand)(t:TypeId)(ho:o.op=.call { callee:=.builtin .append,args:=#[s,x],argTypes:=#[t,t] })(base:Nat)(e:TypeId)(i:TypeInfo)(z:Value)(size bytes:Nat)(ht:P.underlying t=some (.slice e))(hi:P.info? e=some i)(hz:i.zero=some z)(iG:i.size=size)(yY:i.bytes=bytes)(JL:z.cells.size=size)(hZ:0<size)(S7:∀u∈z.cells.toList,S u)(v:Value)(n:Nat)(xs:List Value)(hs:a.eval s=v)(aW:bB S w base e size v n xs)(A:OA)(m c:Nat)(news:List Value)(hx:a.eval x=.slice A m c)(hr:Rd w w.heap.size size A m news)(h1:∀u∈news,u.oneCell'=true/\S u)(uO:n+m<=maxLen)(gX:(n+m)*bytes<=140737488355328)(cD:base<=w.heap.size)(h:∀v' w',bB S w' base e size v' (n+m) (xs++news)->dU S base e w w'->(v=.slice none 0 0->Below w.heap.size w w'/\bB S w' w.heap.size e size v' (n+m) (xs++news))->(v'.ownBlock=v.ownBlock\/v'.ownBlock=some w.heap.size)->K (a.put o.dst v') w'):o.wp P a w K Q:=by
 obtain⟨v',w',g1,g2,g3,g4,g5⟩:=J3 (P:=P) w base t o.type e i z size bytes ht hi hz iG yY JL hZ S7 v n xs aW A m c news hr h1 uO gX cD;unfold Oper.wp execOp;simp only[ho,resolve,invoke,builtin,Sem.run_bind,Sem.run_pure,Result.andThen_ok,List.map_toArray,List.map_cons,List.map_nil,hs,hx,g1];exact h v' w' g2 g3 g4 g5
theorem nV{S:Value->Prop}{ops:Array Oper}{rest:List Oper}{o:Oper}{a:Act}{Q:Exit->Act->World->Prop}{w:Wo}(yW:o.guard=none)(s x:Operand)(t:TypeId)(ho:o.op=.call { callee:=.builtin .append,args:=#[s,x],argTypes:=#[t,t] })(base:Nat)(e:TypeId)(i:TypeInfo)(z:Value)(size bytes:Nat)(ht:P.underlying t=some (.slice e))(hi:P.info? e=some i)(hz:i.zero=some z)(iG:i.size=size)(yY:i.bytes=bytes)(JL:z.cells.size=size)(hZ:0<size)(S7:∀u∈z.cells.toList,S u)(v:Value)(n:Nat)(xs:List Value)(hs:a.eval s=v)(aW:bB S w base e size v n xs)(A:OA)(m c:Nat)(news:List Value)(hx:a.eval x=.slice A m c)(hr:Rd w w.heap.size size A m news)(h1:∀u∈news,u.oneCell'=true/\S u)(uO:n+m<=maxLen)(gX:(n+m)*bytes<=140737488355328)(cD:base<=w.heap.size)(h:∀v' w',bB S w' base e size v' (n+m) (xs++news)->dU S base e w w'->(v=.slice none 0 0->Below w.heap.size w w'/\bB S w' w.heap.size e size v' (n+m) (xs++news))->(v'.ownBlock=v.ownBlock\/v'.ownBlock=some w.heap.size)->wpList P ops Q rest (a.put o.dst v') w'):wpList P ops Q (o::rest) a w:=by
 refine wpList_plain yW fun K hK=>?_;exact XJ s x t ho base e i z size bytes ht hi hz iG yY JL hZ S7 v n xs hs aW A m c news hx hr h1 uO gX cD fun v' w' a1 a2 a3 a4=>hK _ _ (h v' w' a1 a2 a3 a4)
end
end
section
def vf(l:List Rat):Fn:=fun i=>l.getD i 0
def tG(M:List (List Rat)):List Fn:=M.map vf
theorem kW{l:List Rat}(h:l[i]?=some x):vf l i=x:=by unfold vf;rw[dH,h];rfl
theorem bC{l:List Rat}(h:i<l.length):l[i]?=some (vf l i):=by unfold vf;rw[dH,gS h];rfl
theorem CD{M:List (List Rat)}{f:Fn}(h:(tG M)[i]?=some f):∃a,M[i]?=some a/\f=vf a:=by
 unfold tG at h;rw[lT] at h;obtain⟨a,ha,he⟩:=Option.map_eq_some_iff.1 h;exact⟨a,ha,he.symm⟩
theorem nN{M:List (List Rat)}(h:M[i]?=some a):(tG M)[i]?=some (vf a):=by unfold tG;rw[lT,h];rfl
theorem tF(M:List (List Rat)):(tG M).length=M.length:=by unfold tG;rw[iT]
theorem nQ{M:List (List Rat)}{x:Fn}:uQ n (tG M) x<->∀(i:Nat)(a:List Rat),M[i]?=some a->aV n (vf a) x=0:=by
 constructor
 ·intro h i a ha
  exact h _ (bS (nN ha))
 ·intro h f hf
  obtain⟨i,hi⟩:=List.mem_iff_getElem?.1 hf;obtain⟨a,ha,rfl⟩:=CD hi;exact h i a ha
def iX(d:Rat)(row:List Rat):List Rat:=row.map fun x=>x / d
def xA(f:Rat)(R row:List Rat):List Rat:=List.zipWith (fun x y=>x-f*y) row R
theorem lA(d:Rat)(row:List Rat):(iX d row).length=row.length:=by unfold iX;rw[iT]
theorem PA(h:R.length=row.length):(xA f R row).length=row.length:=by unfold xA;rw[List.length_zipWith,h,Nat.min_self]
theorem FZ(h:i<row.length):vf (iX d row) i=vf row i / d:=by
 refine kW ?_;unfold iX;rw[lT,bC h];rfl
theorem FL(h:i<row.length)(hl:R.length=row.length):vf (xA f R row) i=vf row i-f*vf R i:=by
 refine kW ?_;unfold xA;rw[List.getElem?_zipWith,bC h,bC (by rw[hl];exact h)]
def cX(M:List (List Rat))(r p k:Nat):List (List Rat):=(M.set p (M.getD r [])).set r (iX (vf (M.getD p []) k) (M.getD p []))
def eL(M:List (List Rat))(r p k:Nat):List (List Rat):=(cX M r p k).mapIdx fun i row=>if i=r then row else xA (vf row k) (iX (vf (M.getD p []) k) (M.getD p [])) row
theorem u_(M:List (List Rat))(r p k:Nat):(cX M r p k).length=M.length:=by unfold cX;rw[kV,kV]
theorem EO(M:List (List Rat))(r p k:Nat):(eL M r p k).length=M.length:=by unfold eL;rw[List.length_mapIdx,u_]
section
variable {M:List (List Rat)} {N r p k:Nat} {Rp Rr:List Rat}
theorem K8(hr:M[r]?=some Rr)(hp:M[p]?=some Rp):(cX M r p k)[r]?=some (iX (vf Rp k) Rp):=by
 unfold cX;rw[List.getElem?_set_self (by rw[kV];exact(cY.1 hr).1),dH,hp];rfl
theorem aDD(hr:M[r]?=some Rr)(hp:M[p]?=some Rp)(hrp:r≠p):(cX M r p k)[p]?=some Rr:=by
 unfold cX;rw[List.getElem?_set_ne hrp,List.getElem?_set_self (cY.1 hp).1,dH,hr];rfl
theorem M9(h1:i≠r)(h2:i≠p):(cX M r p k)[i]?=M[i]?:=by
 unfold cX;rw[List.getElem?_set_ne (fun e=>h1 e.symm),List.getElem?_set_ne (fun e=>h2 e.symm)]
theorem AD(hr:M[r]?=some Rr)(hp:M[p]?=some Rp)(hi:i≠r)(h:(cX M r p k)[i]?=some a):∃s,M[s]?=some a/\s≠p/\(s=i\/(i=p/\s=r)):=by
 by_cases hip:i=p
 ·subst hip
  rw[aDD hr hp (fun e=>hi e.symm)] at h;injection h with h;subst h;exact⟨r,hr,fun e=>hi e.symm,.inr ⟨rfl,rfl⟩⟩
 ·rw[M9 hi hip] at h
  exact⟨i,h,hip,.inl rfl⟩
theorem IW{a':List Rat}(hp:M[p]?=some Rp)(h:(eL M r p k)[i]?=some a'):∃a,(cX M r p k)[i]?=some a/\a'=if i=r then a else xA (vf a k) (iX (vf Rp k) Rp) a:=by
 unfold eL at h;rw[List.getElem?_mapIdx] at h;obtain⟨a,ha,he⟩:=Option.map_eq_some_iff.1 h;refine⟨a,ha,?_⟩;rw[<-he];have:M.getD p []=Rp:=by rw[dH,hp];rfl
 rw[this]
theorem Y_(hp:M[p]?=some Rp)(h:(cX M r p k)[i]?=some a):(eL M r p k)[i]?=some (if i=r then a else xA (vf a k) (iX (vf Rp k) Rp) a):=by
 unfold eL;rw[List.getElem?_mapIdx,h];have:M.getD p []=Rp:=by rw[dH,hp];rfl
 rw[this];rfl
theorem K7(hw:∀a∈M,a.length=N)(hr:M[r]?=some Rr)(hp:M[p]?=some Rp):∀a∈cX M r p k,a.length=N:=by
 intro a ha;obtain⟨i,hi⟩:=List.mem_iff_getElem?.1 ha;by_cases yU:i=r
 ·subst yU
  rw[K8 hr hp] at hi;injection hi with hi;subst hi;rw[lA];exact hw _ (bS hp)
 ·obtain⟨s,hs,_⟩:=AD hr hp yU hi
  exact hw _ (bS hs)
theorem L_(hw:∀a∈M,a.length=N)(hr:M[r]?=some Rr)(hp:M[p]?=some Rp):∀a∈eL M r p k,a.length=N:=by
 intro a ha;obtain⟨i,hi⟩:=List.mem_iff_getElem?.1 ha;obtain⟨b,hb,rfl⟩:=IW hp hi;have h1:=K7 (k:=k) hw hr hp b (bS hb);have h2:=hw _ (bS hp);split
 ·exact h1
 ·rw[PA (by rw[lA,h1,h2]),h1]
theorem RX(h:n<=row.length)(x:Fn):aV n (vf (iX d row)) x=(1 / d)*aV n (vf row) x:=by
 rw[<-DI];exact qP (fun i hi=>by rw[FZ (by omega)];grind) fun _ _=>rfl
theorem PE(h:n<=row.length)(hl:R.length=row.length)(x:Fn):aV n (vf (xA f R row)) x=aV n (vf row) x+(-f)*aV n (vf R) x:=by
 rw[<-DI,<-LX];exact qP (fun i hi=>by rw[FL (by omega) hl];grind) fun _ _=>rfl
theorem aJk(hn:n<=N)(hw:∀a∈M,a.length=N)(hr:M[r]?=some Rr)(hp:M[p]?=some Rp)(hd:vf Rp k≠0)(x:Fn):uQ n (tG (eL M r p k)) x<->uQ n (tG M) x:=by
 have xW:=hw _ (bS hp);rw[nQ,nQ]
 constructor
 ·intro h
  have hR:aV n (vf (iX (vf Rp k) Rp)) x=0:=by
   have:=h r _ (Y_ hp (K8 hr hp));rwa[if_pos rfl] at this
  have hP:aV n (vf Rp) x=0:=by
   rw[RX (by omega)] at hR;generalize vf Rp k=d at *;grind
  intro i a ha;by_cases hip:i=p
  ·subst hip
   rw[hp] at ha;injection ha with ha;subst ha;exact hP
  ·have uH:=hw _ (bS ha)
   have key:∀s,s≠r->(cX M r p k)[s]?=some a->aV n (vf a) x=0:=fun s hs hsa=>by
    have:=h s _ (Y_ hp hsa);rw[if_neg hs,PE (by omega) (by rw[lA,xW,uH]),hR,Rat.mul_zero,Rat.add_zero] at this;exact this
   by_cases yU:i=r
   ·subst yU
    rw[hr] at ha;injection ha with ha;subst ha;exact key p (fun e=>hip e.symm) (aDD hr hp hip)
   ·exact key i yU (by rw[M9 yU hip];exact ha)
 ·intro h i a' ha'
  have hR:aV n (vf (iX (vf Rp k) Rp)) x=0:=by rw[RX (by omega),h p Rp hp,Rat.mul_zero]
  obtain⟨a,ha,rfl⟩:=IW hp ha';by_cases yU:i=r
  ·subst yU
   rw[if_pos rfl];rw[K8 hr hp] at ha;injection ha with ha;subst ha;exact hR
  ·rw[if_neg yU]
   obtain⟨s,hs,_⟩:=AD hr hp yU ha;have uH:=hw _ (bS hs);rw[PE (by omega) (by rw[lA,xW,uH]),h s a hs,hR,Rat.mul_zero,Rat.add_zero]
theorem aJl(E:rW (tG M) piv k)(hw:∀a∈M,a.length=N)(hk:k<N)(sM:r=piv.length)(hr:M[r]?=some Rr)(hp:M[p]?=some Rp)(hrp:r<=p)(hd:vf Rp k≠0):rW (tG (eL M r p k)) (piv++[k]) (k+1):=by
 have xW:=hw _ (bS hp);have hRz:∀j,j<k->vf (iX (vf Rp k) Rp) j=0:=fun j hj=>by
  rw[FZ (by omega),E.rest p _ (nN hp) (by omega) j hj];exact Rat.div_def 0 _▸Rat.zero_mul _
 have hR1:vf (iX (vf Rp k) Rp) k=1:=by
  rw[FZ (by omega)];generalize vf Rp k=d at *;grind
 have row:∀i a',(eL M r p k)[i]?=some a'->i≠r->∃s a,M[s]?=some a/\(s=i\/(i=p/\s=r))/\vf a' k=0/\∀j,j<k->vf a' j=vf a j:=fun i a' ha' yU=>by
  obtain⟨a,ha,rfl⟩:=IW hp ha';obtain⟨s,hs,_,h2⟩:=AD hr hp yU ha;have uH:=hw _ (bS hs);refine⟨s,a,hs,h2,?_,fun j hj=>?_⟩
  ·rw[if_neg yU,FL (by omega) (by rw[lA,xW,uH]),hR1];grind
  ·rw[if_neg yU,FL (by omega) (by rw[lA,xW,uH]),hRz j hj];grind
 have prow:∀a',(eL M r p k)[r]?=some a'->a'=iX (vf Rp k) Rp:=fun a' ha'=>by
  obtain⟨a,ha,rfl⟩:=IW hp ha';rw[if_pos rfl];rw[K8 hr hp] at ha;injection ha with ha;exact ha.symm
 have pv:∀t q,(piv++[k])[t]?=some q->(t<piv.length/\piv[t]?=some q/\q<k)\/(t=r/\q=k):=fun t q h=>by
  rcases Nat.lt_or_ge t piv.length with aR | TC
  ·rw[yC aR] at h
   exact .inl ⟨aR,h,E.lt q (bS h)⟩
  ·rw[BP TC] at h
   have:t-piv.length=0:=by
    have:=(cY.1 h).1;simp at this;omega
   rw[this] at h;simp at h;exact .inr ⟨by omega,h.symm⟩
 have hrM:=(cY.1 hr).1;refine⟨?_,?_,?_,?_,?_,?_,?_⟩
 ·rw[tF,EO,g_,List.length_singleton];omega
 ·rw[List.pairwise_append]
  exact⟨E.inc,List.pairwise_singleton _ _,fun a ha b hb=>by rw[List.mem_singleton.1 hb];exact E.lt a ha⟩
 ·intro q hq
  rcases List.mem_append.1 hq with h | h
  ·have:=E.lt q h;omega
  ·rw[List.mem_singleton.1 h];omega
 ·intro t q f h1 h2
  obtain⟨a',ha',rfl⟩:=CD h2;rcases pv t q h1 with⟨aR,hq,hqk⟩ | ⟨rfl,rfl⟩
  ·obtain⟨s,a,hs,YG,_,hj⟩:=row t a' ha' (by omega)
   rw[hj q hqk];rcases YG with rfl | ⟨e1,e2⟩
   ·exact E.one s q _ hq (nN hs)
   ·omega
  ·rw[prow a' ha'];exact hR1
 ·intro t q i f h1 h2 hit
  obtain⟨a',ha',rfl⟩:=CD h2;rcases pv t q h1 with⟨aR,hq,hqk⟩ | ⟨rfl,rfl⟩
  ·by_cases yU:i=r
   ·subst yU
    rw[prow a' ha'];exact hRz q hqk
   ·obtain⟨s,a,hs,YG,_,hj⟩:=row i a' ha' yU
    rw[hj q hqk];refine E.zer t q s _ hq (nN hs) ?_;rcases YG with rfl | ⟨e1,e2⟩
    ·exact hit
    ·omega
  ·obtain⟨s,a,_,_,h0,_⟩:=row i a' ha' hit
   exact h0
 ·intro t q f h1 h2 j hj
  obtain⟨a',ha',rfl⟩:=CD h2;rcases pv t q h1 with⟨aR,hq,hqk⟩ | ⟨rfl,rfl⟩
  ·obtain⟨s,a,hs,YG,_,hjj⟩:=row t a' ha' (by omega)
   rw[hjj j (by omega)];rcases YG with rfl | ⟨e1,e2⟩
   ·exact E.low s q _ hq (nN hs) j hj
   ·omega
  ·rw[prow a' ha'];exact hRz j hj
 ·intro i f h2 hi j hj
  obtain⟨a',ha',rfl⟩:=CD h2;rw[g_,List.length_singleton] at hi;obtain⟨s,a,hs,YG,h0,hjj⟩:=row i a' ha' (by omega);by_cases hjk:j=k
  ·subst hjk;exact h0
  ·rw[hjj j (by omega)]
   refine E.rest s _ (nN hs) ?_ j (by omega);rcases YG with rfl | ⟨e1,e2⟩<;>omega
theorem aDe(E:rW (tG M) piv k)(h:∀i a,M[i]?=some a->piv.length<=i->vf a k=0):rW (tG M) piv (k+1):=
 ⟨E.le,E.inc,fun p hp=>Nat.lt_succ_of_lt (E.lt p hp),E.one,E.zer,E.low,fun i f hf hi j hj=>by
  obtain⟨a,ha,rfl⟩:=CD hf;by_cases hjk:j=k
  ·subst hjk;exact h i a ha hi
  ·exact E.rest i _ (nN ha) hi j (by omega)⟩
theorem aFr(E:rW (tG M) piv k)(h:piv.length=M.length)(hk:k<=n):rW (tG M) piv n:=
 ⟨E.le,E.inc,fun p hp=>kA (E.lt p hp) hk,E.one,E.zer,E.low,fun i f hf hi j hj=>by
  have:=(cY.1 hf).1;rw[tF] at this;omega⟩
theorem aAj(M:List (List Rat)):rW (tG M) [] 0:=
 ⟨Nat.zero_le _,List.Pairwise.nil,fun p hp=>(by cases hp),fun t p a h=>by simp at h,fun t p i a h=>by simp at h,fun t p a h=>by simp at h,fun i a h hi j hj=>by omega⟩
end
end
section
open Go
def mF(u:Nat)(m:Int)(s:List Int×List Nat)(x:Nat×Nat):List Int×List Nat:=
 if(x.1=u\/x.2=u)/\s.1.getD (x.1+x.2-u) 0<0 then(s.1.set (x.1+x.2-u) m,s.2++[x.1+x.2-u]) else s
def oA(u:Nat)(m:Int)(es:List (Nat×Nat))(s:List Int×List Nat):List Int×List Nat:=es.foldl (mF u m) s
def CU(m:Int)(es:List (Nat×Nat)):Nat->List Int->List Nat->List Int
 | 0,out,_=>out
 | _+1,out,[]=>out
 | f+1,out,u::q=>CU m es f (oA u m es (out,q)).1 (oA u m es (out,q)).2
def S6(n:Nat)(es:List (Nat×Nat)):Nat->Nat->List Int×Int->List Int×Int
 | 0,_,s=>s
 | k+1,i,s=>if 0<=s.1.getD i 0 then S6 n es k (i+1) s else S6 n es k (i+1) (CU s.2 es (n+1) (s.1.set i s.2) [i],s.2+1)
def jU(n:Nat)(es:List (Nat×Nat)):List Int:=(S6 n es n 0 (List.replicate n (-1),0)).1
def CX(l:List Int):Nat:=(l.filter (·<0)).length
theorem G4:∀(l:List Int)(i:Nat)(m:Int),0<=m->i<l.length->l.getD i 0<0->CX (l.set i m)+1=CX l
 | [],i,m,_,h,_=>by simp at h
 | x::r,0,m,hm,_,h=>by
  have hx:x<0:=by simpa using h
  have h1:¬m<0:=by omega
  simp[CX,hx,h1]
 | x::r,i+1,m,hm,hl,h=>by
  have ih:=G4 r i m hm (by simpa using hl) (by simpa using h);unfold CX at ih ⊢;rw[List.set_cons_succ];by_cases hx:x<0<;>simp[List.filter_cons,hx]<;>omega
structure Ps (n:Nat) (m:Int) (out:List Int) (q:List Nat):Prop where
 len:out.length=n
 lt:∀u∈q,u<n
 bd:∀x∈out,-1<=x/\x<=m
theorem P8{s:List Int×List Nat}{x:Nat×Nat}(hm:0<=m)(hx:x.1<n/\x.2<n)(h:Ps n m s.1 s.2):Ps n m (mF u m s x).1 (mF u m s x).2/\(mF u m s x).2.length+CX (mF u m s x).1=s.2.length+CX s.1/\s.2.length<=(mF u m s x).2.length:=by
 unfold mF;split
 ·rename_i hc
  have ho:x.1+x.2-u<n:=by omega
  refine⟨⟨by simp[h.len],fun v hv=>?_,fun y hy=>?_⟩,?_,by simp⟩
  ·rcases List.mem_append.1 hv with hv | hv
   ·exact h.lt v hv
   ·rw[List.mem_singleton.1 hv];exact ho
  ·rcases List.mem_or_eq_of_mem_set hy with hy | rfl
   ·exact h.bd y hy
   ·omega
  ·have:=G4 s.1 _ m hm (by rw[h.len];exact ho) hc.2
   simp;omega
 ·exact⟨h,rfl,lR⟩
theorem P_{u:Nat}(hm:0<=m):∀{es:List (Nat×Nat)} {s:List Int×List Nat},(∀x∈es,x.1<n/\x.2<n)->Ps n m s.1 s.2->
    Ps n m (oA u m es s).1 (oA u m es s).2/\(oA u m es s).2.length+CX (oA u m es s).1=s.2.length+CX s.1
 | [],s,_,h=>⟨h,rfl⟩
 | x::r,s,hx,h=>by
  have h1:=P8 (u:=u) hm (hx x (List.mem_cons_self ..)) h;have h2:=P_ (u:=u) hm (fun y hy=>hx y (List.mem_cons_of_mem _ hy)) h1.1;exact⟨h2.1,h2.2.trans h1.2.1⟩
theorem NA(hm:0<=m){es:List (Nat×Nat)}(hx:∀x∈es,x.1<n/\x.2<n):∀(f:Nat){out:List Int}{q:List Nat},Ps n m out q->(CU m es f out q).length=n/\(∀x∈CU m es f out q,-1<=x/\x<=m)
 | 0,out,q,h=>⟨h.len,h.bd⟩
 | f+1,out,[],h=>⟨h.len,h.bd⟩
 | f+1,out,u::q,h=>by
  have h1:Ps n m out q:=⟨h.len,fun v hv=>h.lt v (List.mem_cons_of_mem _ hv),h.bd⟩;exact NA hm hx f (P_ (s:=(out,q)) hm hx h1).1
theorem aIk(l:List Int):CX l<=l.length:=List.length_filter_le _ _
theorem UA(hm:0<=m)(s:List Int×List Nat)(x:Nat×Nat)(h:0<=s.1.getD j 0):0<=(mF u m s x).1.getD j 0:=by
 unfold mF;split
 ·simp only[dH] at h ⊢
  rw[List.getElem?_set];split
  ·split
   ·simpa using hm
   ·simp
  ·exact h
 ·exact h
theorem GY(hm:0<=m):∀(es:List (Nat×Nat)) (s:List Int×List Nat) {j:Nat},0<=s.1.getD j 0->0<=(oA u m es s).1.getD j 0
 | [],s,j,h=>h
 | x::r,s,j,h=>GY hm r (mF u m s x) (UA hm s x h)
theorem K9(hm:0<=m)(es:List (Nat×Nat)):∀(f:Nat)(out:List Int)(q:List Nat){j:Nat},0<=out.getD j 0->0<=(CU m es f out q).getD j 0
 | 0,out,q,j,h=>h
 | f+1,out,[],j,h=>h
 | f+1,out,u::q,j,h=>K9 hm es f _ _ (GY hm es (out,q) h)
theorem UE{es:List (Nat×Nat)}(hx:∀x∈es,x.1<n/\x.2<n):∀(k i:Nat)(s:List Int×Int),s.1.length=n->i+k=n->(∀x∈s.1,-1<=x/\x<s.2)->0<=s.2->s.2<=i->(∀j,j<i->0<=s.1.getD j 0)->
    (S6 n es k i s).1.length=n/\(∀x∈(S6 n es k i s).1,-1<=x/\x<n)/\∀j,j<n->0<=(S6 n es k i s).1.getD j 0
 | 0,i,s,hl,hi,hb,h0,h1,hj=>by
  refine⟨hl,fun x hx=>?_,fun j h=>hj j (by omega)⟩;have:=hb x hx;omega
 | k+1,i,s,hl,hi,hb,h0,h1,hj=>by
  unfold S6;split
  ·rename_i hz
   exact UE hx k (i+1) s hl (by omega) hb h0 (by omega) (fun j h=>by
    by_cases hji:j=i
    ·subst hji;exact hz
    ·exact hj j (by omega))
  ·rename_i hz
   have lE:i<s.1.length:=by omega
   have DE:Ps n s.2 (s.1.set i s.2) [i]:=⟨by simp[hl],fun v hv=>(by rw[List.mem_singleton.1 hv];omega),fun x hx=>by
    rcases List.mem_or_eq_of_mem_set hx with hx | rfl
    ·have:=hb x hx;omega
    ·omega⟩
   have h2:=NA h0 hx (n+1) DE;refine UE hx k (i+1) _ h2.1 (by omega) (fun x hx=>(by have:=h2.2 x hx;show _/\_<s.2+1;omega)) (by show 0<=s.2+1;omega) (by show s.2+1<=_;omega) (fun j h=>?_);refine K9 h0 es _ _ _ ?_;rw[dH,List.getElem?_set];by_cases hji:i=j
   ·subst hji
    rw[if_pos rfl,if_pos lE];exact h0
   ·rw[if_neg hji,<-dH]
    exact hj j (by omega)
theorem sJ{es:List (Nat×Nat)}(hx:∀x∈es,x.1<n/\x.2<n):(jU n es).length=n/\∀x∈jU n es,0<=x/\x<n:=by
 obtain⟨h1,h2,h3⟩:=UE hx n 0 (List.replicate n (-1),0) (by simp) (by omega) (fun x hx=>(by rw[List.eq_of_mem_replicate hx];exact⟨by omega,show(-1:Int)<0 by omega⟩)) (by show(0:Int)<=0;omega) (by show(0:Int)<=_;omega) (fun j h=>by omega);refine⟨h1,fun x hx=>?_⟩;have h4:=h2 x hx;obtain⟨j,hj⟩:=List.mem_iff_getElem?.1 hx;have rS:=(cY.1 hj).1;have h5:=h3 j (by unfold jU at rS;omega);rw[dH,show(S6 n es n 0 (List.replicate n (-1),0)).1[j]?=some x from hj] at h5;exact⟨h5,h4.2⟩
def GI(l:List Int):Int:=l.foldl (fun a b=>max a (b+1)) 0
theorem aBl(l:List Int):∀a:Int,a<=l.foldl (fun a b=>max a (b+1)) a/\(∀b∈l,b<l.foldl (fun a b=>max a (b+1)) a)/\∀c,a<=c->(∀b∈l,b<c)->l.foldl (fun a b=>max a (b+1)) a<=c:=by
 induction l with
 | nil=>intro a;exact⟨Int.le_refl _,fun _ h=>(by cases h),fun c h _=>h⟩
 | cons x r ih=>
  intro a;obtain⟨h1,h2,h3⟩:=ih (max a (x+1));rw[List.foldl_cons];refine⟨by omega,fun b hb=>?_,fun c hc hb=>h3 c ?_ (fun b h=>hb b (List.mem_cons_of_mem _ h))⟩
  ·rcases List.mem_cons.1 hb with rfl | hb
   ·omega
   ·exact h2 b hb
  ·have:=hb x (List.mem_cons_self ..);omega
theorem FK(l:List Int):0<=GI l/\(∀b∈l,b<GI l)/\∀c,0<=c->(∀b∈l,b<c)->GI l<=c:=aBl l 0
end
section
open Go.ChangeShapes Go.WideShapes Go.ChangeAt Go.RowKit Go.Deep
structure Qu (w:Wo) (base:Nat) (v:Value) (xs:List Value):Prop where
 ex:∃g off cap,v=.slice (some ⟨g,off,none⟩) xs.length cap/\base<=g/\g<w.heap.size/\xs.length<=cap/\cap<=maxLen/\(∀j,j<cap->(w.cell? ⟨g,off+j,none⟩).isSome=true/\w.frozen? ⟨g,off+j,none⟩=false)/\∀(j:Nat)(u:Value),xs[j]?=some u->w.cell? ⟨g,off+j,none⟩=some u
theorem Qu.up(h:Qu w base v xs)(hb:Below w.heap.size w w'):Qu w' base v xs:=by
 obtain⟨g,off,cap,h1,h2,h3,h4,h5,h6,h7⟩:=h.ex;exact⟨g,off,cap,h1,h2,kA h3 hb.size,h4,h5,fun j hj=>by rw[hb.cell h3,hb.frozen h3];exact h6 j hj,fun j u hu=>by rw[hb.cell h3];exact h7 j u hu⟩
theorem Qu.tail{off cap:Nat}{x:Value}(h:Qu w base (.slice (some ⟨g,off,none⟩) n cap) (x::xs)):Qu w base (.slice (if cap=1 then some ⟨g,off,none⟩ else some ⟨g,off+1,none⟩) (n-1) (cap-1)) xs:=by
 obtain⟨g',off',cap',h1,h2,h3,h4,h5,h6,h7⟩:=h.ex;injection h1 with e1 e2 e3;injection e1 with e1;injection e1 with e4 e5;subst e2;subst e3;subst e4;subst e5;simp only[EX,Nat.add_sub_cancel] at h4 ⊢;by_cases hc:cap=1
 ·have hx:xs.length=0:=by omega
  rw[if_pos hc];refine⟨g,off,cap-1,rfl,h2,h3,by omega,by omega,fun j hj=>by omega,fun j u hu=>?_⟩;have:=(cY.1 hu).1;omega
 ·rw[if_neg hc]
  refine⟨g,off+1,cap-1,rfl,h2,h3,by omega,by omega,fun j hj=>?_,fun j u hu=>?_⟩
  ·rw[Nat.add_assoc,Nat.add_comm 1 j];exact h6 (j+1) (by omega)
  ·rw[Nat.add_assoc,Nat.add_comm 1 j];exact h7 (j+1) u (by simpa using hu)
theorem M1{P:Program}(w:Wo)(base:Nat)(t ty e:TypeId)(i:TypeInfo)(z:Value)(ht:P.underlying t=some (.slice e))(hi:P.info? e=some i)(hz:i.zero=some z)(iG:i.size=1)(yY:i.bytes<=16)(JL:z.cells.size=1)(v:Value)(xs:List Value)(h:Qu w base v xs)(a:Addr)(c:Nat)(u:Value)(hu:w.cell? a=some u)(h1:u.oneCell'=true)(ha:a.spot=none)(d8:xs.length<=1000000)(cD:base<=w.heap.size):∃v' w',(Builtin.append_ #[t,t] ty #[v,.slice (some a) 1 c]).run P w=.ok v' w'/\Qu w' base v' (xs++[u])/\Below base w w'/\∀g off n cap,v=.slice (some ⟨g,off,none⟩) n cap->w.grownBy w' (some g):=by
 obtain⟨g,off,cap,rfl,h2,h3,h4,h5,h6,h7⟩:=h.ex;have jH:∀(j:Nat)(x:Value),([u]:List Value)[j]?=some x->w.cell? (a.add j)=some x:=fun j x hx=>by
  have hj:j=0:=by have:=(cY.1 hx).1;simpa using this
  subst hj;simp at hx;subst hx;obtain⟨ab,ao,asp⟩:=a;simp only at ha;subst ha;rw[Addr.add_lit,Nat.add_zero];exact hu
 have q_:Src P i.size t (.slice (some a) 1 c) 1 [u] w:=Src.ofSlice w ht a 1 c [u] (by rw[iG];rfl) jH (fun x hx=>by rw[List.mem_singleton.1 hx];exact h1);by_cases AP:xs.length+1<=cap
 ·have hr:=run_append_room_src (P:=P) w t t ty e i ht hi g off xs.length cap _ 1 [u] q_ AP
   (fun j hj=>by
    have NU:j=0:=by simpa using hj
    subst NU;rw[iG,Nat.mul_one,Nat.add_zero];exact(h6 xs.length (by omega)).1)
   (fun j hj=>by
    have NU:j=0:=by simpa using hj
    subst NU;rw[iG,Nat.mul_one,Nat.add_zero];exact(h6 xs.length (by omega)).2)
  rw[iG,Nat.mul_one] at hr;have lE:=World.cell?_setCells_in g [u] (off+xs.length) w (fun j hj=>by
   have NU:j=0:=by simpa using hj
   subst NU;rw[Nat.add_zero];exact(h6 xs.length (by omega)).1) 0 (by simp)
  rw[Nat.add_zero] at lE;have hb:Below base w (w.setCells g (off+xs.length) [u]):=(Below.refl base w).setCell (p:=⟨g,off+xs.length,none⟩) h2 u;have jI:∀j,j≠xs.length->(w.setCells g (off+xs.length) [u]).cell? ⟨g,off+j,none⟩=w.cell? ⟨g,off+j,none⟩:=fun j hj=>World.cell?_setCells_out g [u] (off+xs.length) w _ (fun _ _=>by simp only[List.length_singleton];omega);refine⟨_,_,hr,⟨g,off,cap,by rw[g_];rfl,h2,kA h3 hb.size,by rw[g_];simpa using AP,h5,fun j hj=>⟨?_,?_⟩,fun j x hx=>?_⟩,hb,?_⟩
  ·by_cases hje:j=xs.length
   ·subst hje;rw[lE];rfl
   ·rw[jI j hje];exact(h6 j hj).1
  ·rw[World.frozen?_setCells];exact(h6 j hj).2
  ·by_cases hje:j=xs.length
   ·subst hje
    rw[lE];simp at hx;rw[<-hx];rfl
   ·have hl:j<xs.length:=by have:=(cY.1 hx).1;rw[g_,List.length_singleton] at this;omega
    rw[jI j hje];rw[yC hl] at hx;exact h7 j x hx
  ·intro g' off' n' cap' e
   injection e with e _ _;injection e with e;injection e with e _;subst e;exact gK (p:=⟨g,off+xs.length,none⟩) (World.grownBy.refl w (some g)) (.inl rfl) u
 ·have hold:(Builtin.firstCells i.size xs.length (.slice (some ⟨g,off,none⟩) xs.length cap)).run P w.drew=.ok xs.toArray w.drew:=
   run_firstCells_some w.drew i.size xs.length ⟨g,off,none⟩ xs.length cap xs (by rw[iG,Nat.mul_one]) (fun j x hx=>by rw[Addr.add_lit];exact h7 j x hx)
  have hr:=run_append_grow_src (P:=P) w t t ty e i z ht hi hz (some ⟨g,off,none⟩) xs.length cap xs hold _ 1 [u] q_ (by omega) (by omega)
   (growslice_fits_wide (by omega) (b_ (Nat.mul_le_mul_left _ yY) (by omega)))
  have TC:=grownCap_ge w (xs.length+1) cap e;have KD:grownCap w (xs.length+1) cap e<=maxLen:=grownCap_le_maxLen w (xs.length+1) cap e (by simp only[maxLen];omega);generalize grownCap w (xs.length+1) cap e=gc at *;have dO:=aD.new w.drew e ((xs++[u]).toArray++Builtin.zeroCells z.cells (gc-(xs.length+1)));have hZ:((xs++[u]).toArray++Builtin.zeroCells z.cells (gc-(xs.length+1))).size=gc:=by
   rw[Array.size_append,size_zeroCells,JL];simp only[List.size_toArray,g_,List.length_singleton];omega
  have hb:Below base w (w.drew.alloc (.cells ((xs++[u]).toArray++Builtin.zeroCells z.cells (gc-(xs.length+1))) e)):=(bF (Below.refl base w) 1).alloc cD _;refine⟨_,_,hr,⟨w.heap.size,0,gc,by rw[g_];rfl,cD,by simp,by rw[g_];simpa using TC,KD,fun j hj=>?_,fun j x hx=>?_⟩,hb,fun g' _ _ _ _=>UP (tJ (World.grownBy.refl w (some g')) 1) _⟩
  ·rw[Nat.zero_add]
   refine⟨?_,dO.frozen j⟩;have:=dO.cell j;rw[show w.drew.heap.size=w.heap.size from rfl] at this;rw[this,Array.getElem?_eq_getElem (by omega)];rfl
  ·rw[Nat.zero_add]
   have:=dO.cell j;rw[show w.drew.heap.size=w.heap.size from rfl] at this;have hl:=(cY.1 hx).1;rw[this,Array.getElem?_append_left (by simpa using hl)];simpa using hx
theorem t6{P:Program}(w:Wo){ops:Array Oper}{rest:List Oper}{o:Oper}{a:Act}{Q:Exit->Act->World->Prop}(yW:o.guard=none)(s x:Operand)(t:TypeId)(ho:o.op=.call { callee:=.builtin .append,args:=#[s,x],argTypes:=#[t,t] })(base:Nat)(e:TypeId)(i:TypeInfo)(z:Value)(ht:P.underlying t=some (.slice e))(hi:P.info? e=some i)(hz:i.zero=some z)(iG:i.size=1)(yY:i.bytes<=16)(JL:z.cells.size=1)(v:Value)(xs:List Value)(hs:a.eval s=v)(h:Qu w base v xs)(ad:Addr)(c:Nat)(u:Value)(hx:a.eval x=.slice (some ad) 1 c)(hu:w.cell? ad=some u)(h1:u.oneCell'=true)(ha:ad.spot=none)(d8:xs.length<=1000000)(cD:base<=w.heap.size)(hk:∀v' w',Qu w' base v' (xs++[u])->Below base w w'->wpList P ops Q rest (a.put o.dst v') w'):wpList P ops Q (o::rest) a w:=by
 obtain⟨v',w',hr,h2,h3,_⟩:=M1 (P:=P) w base t o.type e i z ht hi hz iG yY JL v xs h ad c u hu h1 ha d8 cD;refine wpList_plain yW fun _ hK=>?_;unfold Oper.wp execOp;simp only[ho,resolve,invoke,builtin,Sem.run_bind,Sem.run_pure,Result.andThen_ok,List.map_toArray,List.map_cons,List.map_nil,hs,hx,hr];exact hK _ _ (hk v' w' h2 h3)
end
section
open Go.ChangeShapes Go.WideShapes Go.ChangeAt Go.RowKit Go.Joins Go.Deep
attribute [local go_sem ↓] aE
attribute [local go_sem] aL aK aO a_
open Go.RowKit in
theorem MX{P:Program}{ops:Array Oper}{o:Oper}{a:Act}{w:Wo}{K:Act->World->Prop}{Q:Exit->Act->World->Prop}{E:Prop}(q:Nat)(hq:o.dst=some q)(yW:o.guard=none)(d s:Operand)(dT sT:TypeId)(ho:o.op=.call { callee:=.builtin .copy,args:=#[d,s],argTypes:=#[dT,sT] })(elem:TypeId)(hu:P.underlying dT=some (.slice elem))(hZ:(P.info? elem).map (·.size)=some 1)(dp sp:OA)(dLen dCap sLen sCap:Nat)(hd:a.eval d=.slice dp dLen dCap)(hs:a.eval s=.slice sp sLen sCap)(g off:Nat)(cur:List Value)(t:TypeId)(hg:w.heap[g]?=some (.cells cur.toArray t (0,0)))(cs:List Value)(hn:cs.length=Nat.min sLen dLen)(VG:0<cs.length->dp=some ⟨g,off,none⟩/\∃ad,sp=some ad/\∀j v,cs[j]?=some v->w.cell? (ad.add j)=some v)(xH:off+cs.length<=cur.length)(h1:∀v∈cs,v.oneCell'=true)(B:Nat)(w0:Wo)(hb:Below B w0 w)(hBg:B<=g)(h:∀w',Hid (w'.heap[g]?=some (.cells (splice cur off cs).toArray t (0,0)))->Below B w0 w'->K (a.put (some q) (goInt cs.length)) w'):if Region.wanted o (yielded ops a.tmps)=true then Oper.wp P o a w K Q else E:=
 step_copy_splice yW d s dT sT ho elem hu hZ dp sp dLen dCap sLen sCap hd hs g off cur t hg cs hn VG xH h1 B w0 hb hBg (by rw[hq];exact h)
namespace M64
variable {A : OA} {B N base c e g i j k n r s size u : Nat} {M0 : List (List Rat)} {R a row : List Rat} {d f x : Rat} {m : Int} {out : List Int} {piv : List Nat} {v : Value} {w w' : World} {xs : List Value}
theorem maskN(a:Nat)(ha:a<18446744073709551616):bits .and .u64 (a:Int) 4294967295=((a % 4294967296:Nat):Int):=by
 have h:=Go.bits_and_u64_nat a 4294967295 ha (by omega);have e:a &&& 4294967295=a % 4294967296:=Nat.and_two_pow_sub_one_eq_mod a 32;rw[e] at h;exact h
theorem divN(a:Nat):(a:Int) / 4294967296=((a / 4294967296:Nat):Int):=by omega
theorem mulN(a b:Nat):(a:Int)*(b:Int)=((a*b:Nat):Int):=(Int.natCast_mul a b).symm
theorem addN(a b:Nat):(a:Int)+(b:Int)=((a+b:Nat):Int):=(Int.natCast_add a b).symm
theorem wrapN(a:Nat)(ha:a<18446744073709551616):IntKind.u64.wrap (a:Int)=(a:Int):=by rw[IntKind.wrap_u64];omega
theorem wrapM(a:Nat):IntKind.u64.wrap (a:Int)=((a % 18446744073709551616:Nat):Int):=by rw[IntKind.wrap_u64];omega
end M64
theorem aAM(x y:Nat)(hx:x<18446744073709551616)(hy:y<18446744073709551616)(w:Wo):Calls Tryz.prog 178 #[.int .u64 x,.int .u64 y] w fun e w'=>e=.returned (.tuple #[.int .u64 ((x*y / 18446744073709551616:Nat):Int),.int .u64 ((x*y % 18446744073709551616:Nat):Int)])/\w=w':=by
 obtain⟨bd,bt,bw,hhi⟩:=Lib.mul64_hi x y hx hy;have ba:=Lib.half_mul_le (a:=x / 4294967296) (b:=y / 4294967296) (by omega) (by omega);have bb:=Lib.half_mul_le (a:=x / 4294967296) (b:=y % 4294967296) (by omega) (by omega);have bc:=Lib.half_mul_le (a:=x % 4294967296) (b:=y / 4294967296) (by omega) (by omega);have ba':x / 4294967296*(y / 4294967296)<18446744073709551616:=by omega
 have bb':x / 4294967296*(y % 4294967296)<18446744073709551616:=by omega
 have bc':x % 4294967296*(y / 4294967296)<18446744073709551616:=by omega
 have bh1:x / 4294967296*(y / 4294967296)+(x / 4294967296*(y % 4294967296)+x % 4294967296*(y % 4294967296) / 4294967296) / 4294967296<18446744073709551616:=by omega
 have bh:x / 4294967296*(y / 4294967296)+(x / 4294967296*(y % 4294967296)+x % 4294967296*(y % 4294967296) / 4294967296) / 4294967296+((x / 4294967296*(y % 4294967296)+x % 4294967296*(y % 4294967296) / 4294967296) % 4294967296+x % 4294967296*(y / 4294967296)) / 4294967296<18446744073709551616:=by omega
 go_enter Tryz.func178,Tryz.ntmps178
 go_wp2
 simp only[M64.maskN x hx,M64.maskN y hy,M64.divN,M64.mulN,M64.addN,M64.wrapN _ bd,M64.wrapN _ bb',M64.wrapN _ bt,M64.maskN _ bt,M64.wrapN _ bc',M64.wrapN _ bw,M64.wrapN _ ba',M64.wrapN _ bh1,M64.wrapN _ bh,M64.wrapM (x*y)];rw[hhi];go_ret2;exact⟨rfl,rfl⟩
theorem X6(x y:Nat)(hx:x<18446744073709551616)(hy:y<18446744073709551616)(w:Wo):Calls Tryz.prog 163 #[.int .u64 x,.int .u64 y] w fun e w'=>e=.returned (.tuple #[.int .u64 ((x*y / 18446744073709551616:Nat):Int),.int .u64 ((x*y % 18446744073709551616:Nat):Int)])/\w=w':=by
 go_enter Tryz.func163,Tryz.ntmps163
 go_wp2_with fail
 refine(aAM x y hx hy w).mono ?_;rintro e w' ⟨rfl,rfl⟩
 go_wp2_with fail
 go_ret2;exact⟨rfl,rfl⟩
theorem QT:(Tryz.prog.info? 3).map (fun i=>(i.zero,i.size,i.bytes))=some (some (.int .i64 0),1,8):=by kernel_rfl
theorem PO:(Tryz.prog.info? 3).map (·.size)=some 1:=by kernel_rfl
theorem T5(v:Int)(b:Nat)(n:Nat)(w:Wo)(hv:w.cell? ⟨b,0,none⟩=some (.int .i64 v))(hn:n<=1000):Calls Tryz.prog 159 #[.slice (some ⟨b,0,none⟩) 1 1,.int .i64 n] w fun e w'=>∃g,e=.returned (.slice (some ⟨g,0,none⟩) n n)/\w.heap.size<=g/\aD w' g 3 (List.replicate n (.int .i64 v)).toArray/\Below w.heap.size w w':=by
 have VR:=World.block_lt_of_cell? w ⟨b,0,none⟩ hv;have s_:∀w:World,(Instr.makeSlice 30 (.int .i64 (n:Int)) (.int .i64 (n:Int))).run Tryz.prog w=.ok (.slice (some ⟨w.heap.size,0,none⟩) n n) (w.alloc (.cells (madeCells #[.int .i64 0] n) 3)):=
  fun w=>run_make_row' (P:=Tryz.prog) 30 3 (.int .i64 0) 8 Tryz.underlying30 QT rfl .i64 .i64 n (by omega) (by omega) w
 have hHV:=lH hv;clear hv;go_enter Tryz.func159,Tryz.ntmps159
 go_wp2_with fail
 refine(X6 1 n (by omega) (by omega) _).mono ?_;rw[show(1*n / 18446744073709551616:Nat)=0 from by omega,show(1*n % 18446744073709551616:Nat)=n from by omega];rintro e w' ⟨rfl,rfl⟩;have aES:(madeCells #[.int .i64 0] n).toList.length=n:=by simp[size_madeCells]
 have lB:=lH aES;clear aES;have hB0:=jO w (.cells (madeCells #[.int .i64 0] n) 3);have dO:(w.alloc (.cells (madeCells #[.int .i64 0] n) 3)).heap[w.heap.size]?=some (.cells (madeCells #[.int .i64 0] n).toList.toArray 3 (0,0)):=by simpa using heap_alloc_new w _
 have q_:(w.alloc (.cells (madeCells #[.int .i64 0] n) 3)).cell? ⟨b,0,none⟩=some (.int .i64 v):=(World.cell?_alloc_lt _ _ _ VR).trans hHV.out;obtain⟨eD,aOa,aNy⟩:=dZ hB0 dO q_;have aKn:∀j u,(List.replicate (min 1 n) (.int .i64 v))[j]?=some u->(w.alloc (.cells (madeCells #[.int .i64 0] n) 3)).cell? ((⟨b,0,none⟩:Addr).add j)=some u:=fun j u hu=>by
  have hj:=(cY.1 hu).1;simp at hj;have:j=0:=by omega
  subst this;rw[List.getElem?_replicate,if_pos (by omega)] at hu;injection hu with hu;subst hu;exact aNy.o
 have aR0:=lH aKn;clear hB0 dO q_ aKn
 go_wp2_with (refine wpList_copy_splice rfl (.tmp 31) (.tmp 32) 30 30 rfl 3 Tryz.underlying30 PO (some ⟨w.heap.size,0,none⟩) (some ⟨b,0,none⟩) n n 1 1 rfl rfl w.heap.size 0 (madeCells #[.int .i64 0] n).toList 3 aOa.o (List.replicate (min 1 n) (.int .i64 v)) (by simp) (fun _=>⟨rfl,_,rfl,aR0.o⟩) (by simp;have:=lB.o;simp at this;omega) (fun u hu=>by rw[(List.mem_replicate.1 hu).2];rfl) w.heap.size w eD.o lR ?_)
 intro w2 bH k2;have kO:(splice (madeCells #[.int .i64 0] n).toList 0 (List.replicate (min 1 n) (.int .i64 v))).length=n/\∀i,i<min 1 n->(splice (madeCells #[.int .i64 0] n).toList 0 (List.replicate (min 1 n) (.int .i64 v)))[i]?=some (.int .i64 v):=by
  refine⟨by unfold splice;have:=lB.o;simp at this ⊢;omega,fun i hi=>?_⟩;unfold splice;rw[List.take_zero,List.nil_append,yC (by simpa using hi),List.getElem?_replicate,if_pos hi]
 generalize splice (madeCells #[.int .i64 0] n).toList 0 (List.replicate (min 1 n) (.int .i64 v))=cur0 at bH kO;obtain⟨dN,yB,HK0⟩:=dZ bH.out k2 kO;have aER:min 1 n<=n:=Nat.min_le_right _ _;have aEQ:0<n->0<min 1 n:=fun h=>by omega
 clear bH k2 kO s_;generalize min 1 n=k0 at *
 go_wp2_with fail
 go_loopw [8] (fun i wr=>∃k:Nat,k<=n/\i=.int .i64 k/\(0<n->0<k)/\Below w.heap.size w wr/\∃cur:List Value,cur.length=n/\(∀i,i<k->cur[i]?=some (.int .i64 v))/\Hid (wr.heap[w.heap.size]?=some (.cells cur.toArray 3 (0,0)))) (fun i _=>n-(intOf i).toNat)
 case atStart=>exact⟨k0,aER,rfl,aEQ,yB.o,cur0,HK0.o.1,HK0.o.2,dN⟩
 case round=>
  obtain⟨k,hk,rfl,E7,aFf,cur,wQ,VN,dO⟩:=hrel;obtain⟨HCI,oU,MN⟩:=dZ VN aFf wQ;clear VN aFf wQ;by_cases aR:k<n
  ·have aQB:0<k:=E7 (by omega)
   clear E7;have q_:∀j u,(List.replicate (min k (n-k)) (.int .i64 v))[j]?=some u->wr.drew.cell? ((⟨w.heap.size,0,none⟩:Addr).add j)=some u:=fun j u hu=>by
    have hj:=(cY.1 hu).1;simp at hj;rw[List.getElem?_replicate,if_pos hj] at hu;injection hu with hu;subst hu;have h1:=HCI.o j (by omega);have h2:=cell_of_row wr w.heap.size j cur.toArray 3 (0,0) dO.out;rw[show((⟨w.heap.size,0,none⟩:Addr).add j)=⟨w.heap.size,j,none⟩ from by unfold Addr.add;split<;>simp_all];show wr.cell? _=_;rw[h2];simpa using h1
   have aGu:=lH q_;clear q_;have hI1:(k:Int)<=(n:Int):=by omega
   have hI2:=lZ k;have aVk:min k (n-k)<=n-k:=Nat.min_le_right _ _;have Q6:0<min k (n-k):=by omega
   have hw1:IntKind.i64.wrap ((k:Int)+((min k (n-k):Nat):Int))=(k:Int)+((min k (n-k):Nat):Int):=IntWalk.i64_in _ (by omega);(go_wp2_with fail)
   go_region_law (refine MX 45 rfl rfl (.tmp 41) (.tmp 44) 30 30 rfl 3 Tryz.underlying30 PO (some ⟨w.heap.size,k,none⟩) (some ⟨w.heap.size,0,none⟩) (n-k) (n-k) k n (by simp[Act.eval,Act.put];omega) (by simp[Act.eval,Act.put]) w.heap.size k cur 3 dO.out (List.replicate (min k (n-k)) (.int .i64 v)) (by simp) (fun _=>⟨rfl,_,rfl,aGu.o⟩) (by rw[qV,MN.o];omega) (fun u hu=>by rw[(List.mem_replicate.1 hu).2];rfl) w.heap.size w (aI oU.o) lR ?_;intro w3 dK k3)
   have hk3:(splice cur k (List.replicate (min k (n-k)) (.int .i64 v))).length=n/\∀i,i<k+min k (n-k)->(splice cur k (List.replicate (min k (n-k)) (.int .i64 v)))[i]?=some (.int .i64 v):=by
    have wQ:=MN.o;refine⟨by unfold splice;simp;omega,fun i hi=>?_⟩;unfold splice;by_cases AR:i<k
    ·rw[yC (by simp;omega),List.getElem?_take,if_pos AR]
     exact HCI.o i AR
    ·rw[BP (by simp;omega),yC (by simp;omega),List.getElem?_replicate,if_pos (by simp;omega)]
   obtain⟨SX,aN0,aOe⟩:=dZ hk3 k3 dK.out;have aMm:k+min k (n-k)<=n:=by omega
   clear hk3 k3 dK;generalize splice cur k (List.replicate (min k (n-k)) (.int .i64 v))=cur3 at *;generalize min k (n-k)=q at *;(go_wp2_with fail);go_roundw
   case rel=>exact⟨k+q,aMm,by go_num,fun _=>by omega,aN0.o,cur3,SX.o.1,SX.o.2,aOe⟩
   case measure=>simp[intOf];omega
  ·have rR:k=n:=by omega
   subst rR;(go_wp2_with fail);go_ret;refine⟨w.heap.size,rfl,lR,?_,oU.o⟩;have hc:cur=List.replicate k (.int .i64 v):=by
    apply List.ext_getElem?;intro i;by_cases hi:i<k
    ·rw[HCI.o i hi,List.getElem?_replicate,if_pos hi]
    ·rw[List.getElem?_eq_none (by have:=MN.o;omega),List.getElem?_eq_none (by simp;omega)]
   have:=dO.out;rw[hc] at this;exact this
end
section
def oD(M:List (List Rat))(r k:Nat):Nat:=r+(M.drop r).findIdx fun row=>vf row k != 0
def n_:Nat->List (List Rat)->List Nat->Nat->List (List Rat)×List Nat
 | 0,M,piv,_=>(M,piv)
 | s+1,M,piv,k=>if piv.length<M.length then(if oD M piv.length k=M.length then n_ s M piv (k+1) else n_ s (eL M piv.length (oD M piv.length k) k) (piv++[k]) (k+1)) else(M,piv)
def l8(M:List (List Rat))(cols:Nat):List (List Rat)×List Nat:=n_ cols M [] 0
def uW(M:List (List Rat)):Nat:=match M with | []=>0 | a::_=>a.length
def cK(M:List (List Rat)):Nat:=(l8 M (uW M)).2.length
theorem FR{M:List (List Rat)}(h:r<=M.length):r<=oD M r k/\oD M r k<=M.length:=by
 unfold oD;have h1:(M.drop r).findIdx (fun row=>vf row k != 0)<=(M.drop r).length:=List.findIdx_le_length;rw[J2] at h1;omega
theorem aAE{M:List (List Rat)}(h:r<=M.length)(hp:oD M r k=M.length):∀(i:Nat)(a:List Rat),M[i]?=some a->r<=i->vf a k=0:=by
 intro i a hi hri;have aR:=(cY.1 hi).1;have h2:(M.drop r).findIdx (fun row=>vf row k != 0)=(M.drop r).length:=by unfold oD at hp;rw[J2];omega
 have h3:=List.findIdx_eq_length.1 h2 a (bS (i:=i-r) (by rw[List.getElem?_drop];rw[show r+(i-r)=i from by omega];exact hi));simpa using h3
theorem wC{M:List (List Rat)}(h:r<=M.length)(hp:oD M r k≠M.length):∃a,M[oD M r k]?=some a/\vf a k≠0:=by
 have h1:=FR (k:=k) h;have h2:(M.drop r).findIdx (fun row=>vf row k != 0)<(M.drop r).length:=by
  have:(M.drop r).findIdx (fun row=>vf row k != 0)<=(M.drop r).length:=List.findIdx_le_length;rw[J2] at *;unfold oD at *;omega
 have h3:=List.findIdx_getElem (p:=fun row=>vf row k != 0) (xs:=M.drop r) (w:=h2);refine⟨_,gS (by omega),?_⟩;rw[List.getElem_drop] at h3;simpa[oD] using h3
theorem QB{M:List (List Rat)}(hi:M[i]?=some a)(h1:r<=i)(h2:i<oD M r k):vf a k=0:=by
 have h3:=List.not_of_lt_findIdx (p:=fun row=>vf row k != 0) (xs:=M.drop r) (i:=i-r) (by unfold oD at h2;omega);have aR:=(cY.1 hi).1;rw[List.getElem_drop] at h3;have:M[r+(i-r)]'(by omega)=a:=by
  have e:r+(i-r)=i:=by omega
  have:=(cY.1 hi).2;simp only[e];exact this
 rw[this] at h3;simpa using h3
theorem aIa{M:List (List Rat)}{p:Nat}(hr:r<=p)(hp:M[p]?=some a)(ha:vf a k≠0)(hb:∀(i:Nat)(b:List Rat),M[i]?=some b->r<=i->i<p->vf b k=0):oD M r k=p:=by
 have aR:=(cY.1 hp).1;have h1:=FR (M:=M) (r:=r) (k:=k) (by omega);rcases Nat.lt_trichotomy (oD M r k) p with h | h | h
 ·obtain⟨b,bO,bH⟩:=wC (M:=M) (r:=r) (k:=k) (by omega) (by omega)
  exact absurd (hb _ b bO h1.1 h) bH
 ·exact h
 ·exact absurd (QB hp hr h) ha
theorem aDG{M:List (List Rat)}(hr:r<=M.length)(hb:∀(i:Nat)(b:List Rat),M[i]?=some b->r<=i->vf b k=0):oD M r k=M.length:=by
 refine Classical.byContradiction fun h=>?_;obtain⟨a,h1,h2⟩:=wC hr h;exact h2 (hb _ a h1 (FR hr).1)
structure rM (M0 M:List (List Rat)) (N:Nat) (piv:List Nat) (k:Nat):Prop where
 ech:rW (tG M) piv k
 wid:∀a∈M,a.length=N
 ker:∀n,n<=N->∀x,uQ n (tG M) x<->uQ n (tG M0) x
 len:M.length=M0.length
theorem D9{M:List (List Rat)}(h:∀a∈M,a.length=N):rM M M N [] 0:=⟨aAj M,h,fun _ _ _=>Iff.rfl,rfl⟩
theorem rM.skip{M:List (List Rat)}(h:rM M0 M N piv k)(hp:oD M piv.length k=M.length):rM M0 M N piv (k+1):=
 ⟨aDe h.ech (aAE (by have:=h.ech.le;rwa[tF] at this) hp),h.wid,h.ker,h.len⟩
theorem rM.step{M:List (List Rat)}(h:rM M0 M N piv k)(hk:k<N)(hl:piv.length<M.length)(hp:oD M piv.length k≠M.length):rM M0 (eL M piv.length (oD M piv.length k) k) N (piv++[k]) (k+1):=by
 obtain⟨Rp,hRp,hd⟩:=wC (oO hl) hp;obtain⟨Rr,hRr⟩:∃Rr,M[piv.length]?=some Rr:=⟨_,gS hl⟩;have h1:=FR (M:=M) (k:=k) (oO hl);exact⟨aJl h.ech h.wid hk rfl hRr hRp h1.1 hd,L_ h.wid hRr hRp,fun n hn x=>(aJk hn h.wid hRr hRp hd x).trans (h.ker n hn x),(EO ..).trans h.len⟩
theorem rM.full{M:List (List Rat)}(h:rM M0 M N piv k)(hl:¬piv.length<M.length)(hk:k<=n):rM M0 M N piv n:=
 ⟨aFr h.ech (by have:=h.ech.le;rw[tF] at this;omega) hk,h.wid,h.ker,h.len⟩
theorem GV:∀(s:Nat) {M0 M:List (List Rat)} {N k:Nat} {piv:List Nat},rM M0 M N piv k->k+s<=N->rM M0 (n_ s M piv k).1 N (n_ s M piv k).2 (k+s)
 | 0,_,_,_,_,_,h,_=>h
 | s+1,M0,M,N,k,piv,h,hk=>by
  unfold n_;by_cases hl:piv.length<M.length
  ·rw[if_pos hl]
   by_cases hp:oD M piv.length k=M.length
   ·rw[if_pos hp]
    have:=GV s (h.skip hp) (by omega);rwa[show k+1+s=k+(s+1) from by omega] at this
   ·rw[if_neg hp]
    have:=GV s (h.step (by omega) hl hp) (by omega);rwa[show k+1+s=k+(s+1) from by omega] at this
  ·rw[if_neg hl]
   exact h.full hl (by omega)
theorem z7{M:List (List Rat)}{cols:Nat}(h:∀a∈M,a.length=N)(hc:cols<=N):rM M (l8 M cols).1 N (l8 M cols).2 cols:=by
 have:=GV cols (D9 h) (by omega);rwa[Nat.zero_add] at this
theorem aDz{M:List (List Rat)}(h:∀a∈M,a.length=n)(h0:M=[]->n=0):∃(E:List Fn)(piv:List Nat),rW E piv n/\piv.length=cK M/\(∀x,uQ n E x<->uQ n (tG M) x)/\E.length=M.length:=by
 have hw:uW M=n:=by
  cases M with
  | nil=>exact(h0 rfl).symm
  | cons a r=>exact h a (List.mem_cons_self ..)
 have:=z7 h (Nat.le_refl n);refine⟨_,_,this.ech,by unfold cK;rw[hw],fun x=>this.ker n lR x,by rw[tF,this.len]⟩
def Bd(B:Nat)(M:List (List Rat)):Prop:=∀a∈M,∀x∈a,bE x+1<=B
theorem Bd.mono{C:Nat}{M:List (List Rat)}(h:Bd B M)(hc:B<=C):Bd C M:=fun a ha x hx=>b_ (h a ha x hx) hc
theorem Bd.at_{M:List (List Rat)}(h:Bd B M)(ha:M[i]?=some a)(hx:a[j]?=some x):bE x+1<=B:=h a (bS ha) x (bS hx)
theorem Bd.vf{M:List (List Rat)}(h:Bd B M)(ha:M[i]?=some a)(hj:j<a.length):bE (vf a j)+1<=B:=h.at_ ha (bC hj)
section
variable {d f x:Rat} {R row:List Rat} {k i j:Nat}
def uI(d:Rat)(k j:Nat)(row:List Rat):List Rat:=row.mapIdx fun i x=>if k<=i/\i<j then x / d else x
def pB(f:Rat)(R:List Rat)(k j:Nat)(row:List Rat):List Rat:=row.mapIdx fun i x=>if k<=i/\i<j then x-f*vf R i else x
theorem RY:(uI d k j row).length=row.length:=by unfold uI;rw[List.length_mapIdx]
theorem PG:(pB f R k j row).length=row.length:=by unfold pB;rw[List.length_mapIdx]
theorem V0:uI d k k row=row:=by
 apply List.ext_getElem?;intro i;unfold uI;rw[List.getElem?_mapIdx];cases row[i]? with
 | none=>rfl
 | some x=>simp only[Option.map_some];rw[if_neg (by omega)]
theorem TX:pB f R k k row=row:=by
 apply List.ext_getElem?;intro i;unfold pB;rw[List.getElem?_mapIdx];cases row[i]? with
 | none=>rfl
 | some x=>simp only[Option.map_some];rw[if_neg (by omega)]
theorem aJj(h:row[j]?=some x):(uI d k j row)[j]?=some x:=by
 unfold uI;rw[List.getElem?_mapIdx,h];simp only[Option.map_some];rw[if_neg (by omega)]
theorem aHQ(h:row[j]?=some x):(pB f R k j row)[j]?=some x:=by
 unfold pB;rw[List.getElem?_mapIdx,h];simp only[Option.map_some];rw[if_neg (by omega)]
theorem aBr(hk:k<=j)(h:row[j]?=some x):(uI d k j row).set j (x / d)=uI d k (j+1) row:=by
 have hj:=(cY.1 h).1;apply List.ext_getElem?;intro i;rw[List.getElem?_set,RY];unfold uI;rw[List.getElem?_mapIdx,List.getElem?_mapIdx];by_cases hi:j=i
 ·subst hi
  rw[if_pos rfl,if_pos hj,h];simp only[Option.map_some];rw[if_pos ⟨hk,by omega⟩]
 ·rw[if_neg hi]
  cases row[i]? with
  | none=>rfl
  | some y=>
   simp only[Option.map_some];by_cases h2:k<=i/\i<j
   ·rw[if_pos h2,if_pos ⟨h2.1,by omega⟩]
   ·rw[if_neg h2,if_neg (by omega)]
theorem aAh(hk:k<=j)(h:row[j]?=some x):(pB f R k j row).set j (x-f*vf R j)=pB f R k (j+1) row:=by
 have hj:=(cY.1 h).1;apply List.ext_getElem?;intro i;rw[List.getElem?_set,PG];unfold pB;rw[List.getElem?_mapIdx,List.getElem?_mapIdx];by_cases hi:j=i
 ·subst hi
  rw[if_pos rfl,if_pos hj,h];simp only[Option.map_some];rw[if_pos ⟨hk,by omega⟩]
 ·rw[if_neg hi]
  cases row[i]? with
  | none=>rfl
  | some y=>
   simp only[Option.map_some];by_cases h2:k<=i/\i<j
   ·rw[if_pos h2,if_pos ⟨h2.1,by omega⟩]
   ·rw[if_neg h2,if_neg (by omega)]
theorem aAi(h:vf R j=0):pB f R k (j+1) row=pB f R k j row:=by
 apply List.ext_getElem?;intro i;unfold pB;rw[List.getElem?_mapIdx,List.getElem?_mapIdx];cases row[i]? with
 | none=>rfl
 | some y=>
  simp only[Option.map_some];by_cases h2:k<=i/\i<j
  ·rw[if_pos h2,if_pos ⟨h2.1,by omega⟩]
  ·rw[if_neg h2]
   by_cases h3:i=j
   ·subst h3
    by_cases h4:k<=i/\i<i+1
    ·rw[if_pos h4,h,Rat.mul_zero,Rat.sub_eq_add_neg,Rat.neg_zero,Rat.add_zero]
    ·rw[if_neg h4]
   ·rw[if_neg (by omega)]
theorem aFJ(h:∀i,i<k->vf row i=0):uI d k row.length row=iX d row:=by
 apply List.ext_getElem?;intro i;unfold uI iX;rw[List.getElem?_mapIdx,lT];cases hx:row[i]? with
 | none=>rfl
 | some x=>
  have hi:=(cY.1 hx).1;simp only[Option.map_some];by_cases hk:k<=i
  ·rw[if_pos ⟨hk,hi⟩]
  ·rw[if_neg (by omega)]
   have:=h i (by omega);rw[kW hx] at this;rw[this,Rat.div_def,Rat.zero_mul]
theorem aC8(hl:R.length=row.length)(h:∀i,i<k->vf R i=0):pB f R k row.length row=xA f R row:=by
 apply List.ext_getElem?;intro i;unfold pB xA;rw[List.getElem?_mapIdx,List.getElem?_zipWith];cases hx:row[i]? with
 | none=>rfl
 | some x=>
  have hi:=(cY.1 hx).1;rw[bC (l:=R) (by omega)];simp only[Option.map_some];by_cases hk:k<=i
  ·rw[if_pos ⟨hk,hi⟩]
  ·rw[if_neg (by omega),h i (by omega),Rat.mul_zero,Rat.sub_eq_add_neg,Rat.neg_zero,Rat.add_zero]
theorem aAg(hl:R.length=row.length):xA 0 R row=row:=by
 apply List.ext_getElem?;intro i;unfold xA;rw[List.getElem?_zipWith];cases hx:row[i]? with
 | none=>rfl
 | some x=>
  have hi:=(cY.1 hx).1;rw[bC (l:=R) (by omega)];simp only;rw[Rat.zero_mul,Rat.sub_eq_add_neg,Rat.neg_zero,Rat.add_zero]
end
def gB(M:List (List Rat))(R:List Rat)(r k i:Nat):List (List Rat):=M.mapIdx fun t row=>if t<i/\t≠r then xA (vf row k) R row else row
section
variable {M:List (List Rat)} {R row:List Rat} {r p k i:Nat}
theorem CN:(gB M R r k i).length=M.length:=by unfold gB;rw[List.length_mapIdx]
theorem PU:gB M R r k 0=M:=by
 apply List.ext_getElem?;intro t;unfold gB;rw[List.getElem?_mapIdx];cases M[t]? with
 | none=>rfl
 | some x=>simp only[Option.map_some];rw[if_neg (by omega)]
theorem zY(h:M[i]?=some row):(gB M R r k i)[i]?=some row:=by
 unfold gB;rw[List.getElem?_mapIdx,h];simp only[Option.map_some];rw[if_neg (by omega)]
theorem aHZ(h:M[r]?=some row):(gB M R r k i)[r]?=some row:=by
 unfold gB;rw[List.getElem?_mapIdx,h];simp only[Option.map_some];rw[if_neg (by omega)]
theorem GT:gB M R r k (r+1)=gB M R r k r:=by
 apply List.ext_getElem?;intro t;unfold gB;rw[List.getElem?_mapIdx,List.getElem?_mapIdx];cases M[t]? with
 | none=>rfl
 | some x=>
  simp only[Option.map_some];by_cases h:t<r
  ·rw[if_pos ⟨by omega,by omega⟩,if_pos ⟨h,by omega⟩]
  ·rw[if_neg (by omega),if_neg (by omega)]
theorem GS(hi:i≠r)(h:M[i]?=some row):(gB M R r k i).set i (xA (vf row k) R row)=gB M R r k (i+1):=by
 have hl:=(cY.1 h).1;apply List.ext_getElem?;intro t;rw[List.getElem?_set,CN];unfold gB;rw[List.getElem?_mapIdx,List.getElem?_mapIdx];by_cases ht:i=t
 ·subst ht
  rw[if_pos rfl,if_pos hl,h];simp only[Option.map_some];rw[if_pos ⟨by omega,hi⟩]
 ·rw[if_neg ht]
  cases M[t]? with
  | none=>rfl
  | some x=>
   simp only[Option.map_some];by_cases h2:t<i/\t≠r
   ·rw[if_pos h2,if_pos ⟨by omega,h2.2⟩]
   ·rw[if_neg h2,if_neg (by omega)]
theorem T4(hl:R.length=row.length)(h:M[i]?=some row)(hz:vf row k=0):gB M R r k (i+1)=gB M R r k i:=by
 by_cases hi:i=r
 ·subst hi;exact GT
 ·rw[<-GS hi h,hz,aAg hl]
  apply List.ext_getElem?;intro t;rw[List.getElem?_set];by_cases ht:i=t
  ·subst ht
   rw[if_pos rfl,if_pos (by rw[CN];exact(cY.1 h).1),zY h]
  ·rw[if_neg ht]
theorem aAu(hp:M[p]?=some row):gB (cX M r p k) (iX (vf row k) row) r k M.length=eL M r p k:=by
 unfold gB eL;have e:M.getD p []=row:=by rw[dH,hp];rfl
 rw[e];apply List.ext_getElem?;intro t;rw[List.getElem?_mapIdx,List.getElem?_mapIdx];cases hx:(cX M r p k)[t]? with
 | none=>rfl
 | some x=>
  have ht:=(cY.1 hx).1;rw[u_] at ht;simp only[Option.map_some];by_cases h:t=r
  ·rw[if_neg (by omega),if_pos h]
  ·rw[if_pos ⟨ht,h⟩,if_neg h]
theorem aC5(hr:M[r]?=some a)(hp:M[p]?=some row):((M.set r row).set p a).set r (iX (vf row k) row)=cX M r p k:=by
 unfold cX;have e:M.getD p []=row:=by rw[dH,hp];rfl
 have e2:M.getD r []=a:=by rw[dH,hr];rfl
 rw[e,e2];by_cases h:r=p
 ·subst h;simp
 ·rw[List.set_comm _ _ (fun e=>h e.symm),List.set_set,List.set_comm _ _ h]
theorem aLA(hr:M[r]?=some a)(hp:M[p]?=some row):((M.set r row).set p a)[r]?=some row:=by
 have h1:=(cY.1 hr).1;rw[List.getElem?_set];by_cases h:p=r
 ·subst h
  rw[if_pos rfl,if_pos (by rw[kV];exact h1)];rw[hr] at hp;exact hp
 ·rw[if_neg h,List.getElem?_set,if_pos rfl,if_pos h1]
theorem PQ{α:Type}{l:List α}{x:α}(h:l[i]?=some x):l.set i x=l:=by
 apply List.ext_getElem?;intro t;rw[List.getElem?_set];by_cases ht:i=t
 ·subst ht
  rw[if_pos rfl,if_pos (cY.1 h).1,h]
 ·rw[if_neg ht]
theorem aD_(h:x∈iX d row):∃y∈row,x=y / d:=by
 unfold iX at h;obtain⟨y,hy,e⟩:=List.mem_map.1 h;exact⟨y,hy,e.symm⟩
theorem aH_(hr:M[r]?=some a)(hp:M[p]?=some row){b:List Rat}(hb:b∈cX M r p k):b∈M\/b=iX (vf row k) row:=by
 obtain⟨t,ht⟩:=List.mem_iff_getElem?.1 hb;by_cases h1:t=r
 ·subst h1
  rw[K8 hr hp] at ht;injection ht with ht;exact .inr ht.symm
 ·by_cases h2:t=p
  ·subst h2
   rw[aDD hr hp (fun e=>h1 e.symm)] at ht;injection ht with ht;exact .inl (ht▸bS hr)
  ·rw[M9 h1 h2] at ht
   exact .inl (bS ht)
theorem aFI(h:Bd B M)(hp:M[p]?=some row)(hk:k<row.length):∀x∈iX (vf row k) row,bE x+2<=2*B:=fun x hx=>by
 obtain⟨y,hy,rfl⟩:=aD_ hx;have h1:=h row (bS hp) y hy;have h2:=h.vf hp hk;have:=FY y (vf row k);omega
theorem aFY(h:Bd B M)(hw:∀a∈M,a.length=N)(hr:M[r]?=some a)(hp:M[p]?=some row)(hk:k<N):Bd (4*B) (eL M r p k):=by
 have xW:=hw row (bS hp);have hd:=aFI h hp (by rw[xW];exact hk);intro b hb x hx;obtain⟨t,ht⟩:=List.mem_iff_getElem?.1 hb;obtain⟨c,hc,rfl⟩:=IW hp ht;have KD:=aH_ hr hp (bS hc);by_cases h1:t=r
 ·rw[if_pos h1] at hx
  rcases KD with h2 | rfl
  ·have:=h c h2 x hx;omega
  ·have:=hd x hx;omega
 ·rw[if_neg h1] at hx
  have hcM:c∈M:=by
   obtain⟨s,hs,_⟩:=AD hr hp h1 hc;exact bS hs
  have wQ:=hw c hcM;obtain⟨j,hj⟩:=List.mem_iff_getElem?.1 hx;have rS:j<c.length:=by
   have:=(cY.1 hj).1;rwa[PA (by rw[lA,xW,wQ])] at this
  have hv:=FL (f:=vf c k) (R:=iX (vf row k) row) (row:=c) rS (by rw[lA,xW,wQ]);rw[kW hj] at hv;rw[hv];obtain⟨s,hs⟩:=List.mem_iff_getElem?.1 hcM;have b1:=h.vf hs rS;have b2:=h.vf hs (show k<c.length by omega);have b3:=hd _ (bS (bC (l:=iX (vf row k) row) (show j<_ by rw[lA,xW];omega)));have b4:=eF (vf c k) (vf (iX (vf row k) row) j);have b5:=rD (vf c j) (vf c k*vf (iX (vf row k) row) j);omega
theorem QA(E:rW (tG M) piv k)(hp:M[p]?=some row)(hl:piv.length<=p):∀j,j<k->vf row j=0:=fun j hj=>E.rest p _ (nN hp) hl j hj
theorem aFG(h:vf row j=0)(hj:j<row.length):vf (iX d row) j=0:=by
 rw[FZ hj,h,Rat.div_def,Rat.zero_mul]
theorem T8(h:piv.length<M.length)(hp:oD M piv.length k=M.length):n_ (s+1) M piv k=n_ s M piv (k+1):=by
 rw[n_,if_pos h,if_pos hp]
theorem T7(h:piv.length<M.length)(hp:oD M piv.length k=p)(cG:p≠M.length):n_ (s+1) M piv k=n_ s (eL M piv.length p k) (piv++[k]) (k+1):=by
 subst hp;rw[n_,if_pos h,if_neg cG]
theorem T9(h:¬piv.length<M.length):n_ s M piv k=(M,piv):=by
 cases s with
 | zero=>rfl
 | succ s=>rw[n_,if_neg h]
end
theorem M_{cols:Nat}(h:k<=cols)(c:Nat):4^k*c<=4^cols*c:=Nat.mul_le_mul_right _ (Nat.pow_le_pow_right (by decide) h)
end
section
open Go.ChangeShapes Go.WideShapes Go.ChangeAt Go.RowKit
attribute [local go_sem ↓] aE
attribute [local go_sem] aL aK aO
theorem Qu.away(h:Qu w base v xs){q:Addr}(hq:q.block<base)(u:Value):Qu (w.setCell q u) base v xs:=by
 obtain⟨g,off,cap,h1,h2,h3,h4,h5,h6,h7⟩:=h.ex;have hb:Below q.block w (w.setCell q u):=(Below.refl _ w).setCell lR u;have hc:∀j,(w.setCell q u).cell? ⟨g,off+j,none⟩=w.cell? ⟨g,off+j,none⟩:=fun j=>World.cell?_setCell_other _ _ _ _ (fun e=>by subst e;simp at hq;omega);have hfz:∀j,(w.setCell q u).frozen? ⟨g,off+j,none⟩=w.frozen? ⟨g,off+j,none⟩:=fun j=>by
  obtain⟨qb,qo,qs⟩:=q;cases qs with
  | none=>exact World.frozen?_setCells qb [u] qo w _
  | some s=>simp
 exact⟨g,off,cap,h1,h2,kA h3 hb.size,h4,h5,fun j hj=>by rw[hc,hfz];exact h6 j hj,fun j x hx=>by rw[hc];exact h7 j x hx⟩
def e_(l:List Nat):List Int:=l.map fun(v:Nat)=>(v:Int)
theorem NM:(Tryz.prog.info? 3).map (fun i=>(i.zero,i.size,i.bytes))=some (some (.int .i64 0),1,8):=by kernel_rfl
def OU(p:Nat×Nat):List Value:=[.int .i64 p.1,.int .i64 p.2]
def SN(w:Wo)(B:Nat)(A:OA)(n:Nat)(es:List (Nat×Nat)):Prop:=es.length=n/\Rd w B 2 A n (es.flatMap OU)
theorem SN.below{B':Nat}{xs:List (Nat×Nat)}(h:SN w B A n xs)(hb:Below B' w w')(hB:B<=B'):SN w' B A n xs:=⟨h.1,h.2.below hb hB⟩
theorem SN.more{B':Nat}{xs:List (Nat×Nat)}(h:SN w B A n xs)(hB:B<=B'):SN w B' A n xs:=⟨h.1,h.2.more hB⟩
theorem SN.form{xs:List (Nat×Nat)}(h:SN w B A n xs)(h0:0<n):∃b off,A=some ⟨b,off,none⟩/\b<B:=by
 obtain⟨b,off,e,aR,_⟩:=h.2.2 h0;exact⟨b,off,e,aR⟩
theorem SN.at_{b off:Nat}{xs:List (Nat×Nat)}(h:SN w B (some ⟨b,off,none⟩) n xs){x:Nat×Nat}(hx:xs[i]?=some x):w.cell? ⟨b,off+i*2,none⟩=some (.int .i64 x.1)/\w.cell? ⟨b,off+i*2+1,none⟩=some (.int .i64 x.2):=by
 have hl:i<xs.length:=(cY.1 hx).1;have h1:=h.1;obtain⟨b',off',e,_,hc⟩:=h.2.2 (by omega);injection e with e;injection e with e1 e2;subst e1;subst e2;have hf:=fun k hk=>kG (el:=OU) (sz:=2) (fun _=>rfl) xs i x hx k hk;exact⟨hc _ _ (hf 0 (by omega)),by rw[Nat.add_assoc];exact hc _ _ (hf 1 (by omega))⟩
theorem aDI{es:List (Nat×Nat)}(hi:i<n)(h:0<=out.getD i 0):S6 n es (n-i) i (out,m)=S6 n es (n-(i+1)) (i+1) (out,m):=by
 obtain⟨k,hk⟩:∃k,n-i=k+1:=⟨n-i-1,by omega⟩;rw[hk,show n-(i+1)=k from by omega];show(if 0<=out.getD i 0 then _ else _)=_;rw[if_pos h]
theorem aDH{es:List (Nat×Nat)}(hi:i<n)(h:¬0<=out.getD i 0):S6 n es (n-i) i (out,m)=S6 n es (n-(i+1)) (i+1) (CU m es (n+1) (out.set i m) [i],m+1):=by
 obtain⟨k,hk⟩:∃k,n-i=k+1:=⟨n-i-1,by omega⟩;rw[hk,show n-(i+1)=k from by omega];show(if 0<=out.getD i 0 then _ else _)=_;rw[if_neg h]
theorem aDJ{es:List (Nat×Nat)}{f:Nat}:CU m es f out []=out:=by cases f<;>rfl
theorem aIb{es:List (Nat×Nat)}{f:Nat}{q:List Nat}(hf:0<f):CU m es f out (u::q)=CU m es (f-1) (oA u m es (out,q)).1 (oA u m es (out,q)).2:=by
 obtain⟨k,rfl⟩:∃k,f=k+1:=⟨f-1,by omega⟩;rfl
theorem UC{es:List (Nat×Nat)}{x:Nat×Nat}{s:List Int×List Nat}(h:es[k]?=some x):oA u m (es.drop k) s=oA u m (es.drop (k+1)) (mF u m s x):=by
 rw[bX h];rfl
theorem tH{l:List Int}(h:aD w g 3 (ints l).toArray)(hi:i<l.length):w.cell? ⟨g,i,none⟩=some (.int .i64 (l.getD i 0)):=by
 rw[h.cell,List.getElem?_toArray];unfold ints;rw[lT,dH,gS hi];rfl
theorem GP{l:List Int}(h:aD w g 3 (ints l).toArray)(v:Int):aD (w.setCell ⟨g,i,none⟩ (.int .i64 v)) g 3 (ints (l.set i v)).toArray:=by
 have h:=h.set_ i (.int .i64 v);rw[show(ints l).toArray.setIfInBounds i (.int .i64 v)=(ints (l.set i v)).toArray from by unfold ints;rw[List.setIfInBounds_toArray,List.map_set]] at h;exact h
theorem wH(q:List Nat)(a:Nat):ints (e_ q)++[Value.int .i64 (a:Int)]=ints (e_ (q++[a])):=by
 unfold ints e_;rw[List.map_append,List.map_append];rfl
def aGj(n:Nat)(es:List (Nat×Nat))(w:Wo)(e:Ending)(w':Wo):Prop:=
 Below w.heap.size w w'/\∃g:Nat,e=.returned (.slice (some ⟨g,0,none⟩) n n)/\w.heap.size<=g/\aD w' g 3 (ints (jU n es)).toArray
theorem aAG(n:Nat)(es:List (Nat×Nat))(w:Wo)(e:Ending)(w':Wo)(h:Below w.heap.size w w'/\∃g:Nat,e=.returned (.slice (some ⟨g,0,none⟩) n n)/\w.heap.size<=g/\aD w' g 3 (ints (jU n es)).toArray):aGj n es w e w':=h
theorem aAF(A:OA)(c n:Nat)(es:List (Nat×Nat))(w:Wo)(hE:SN w w.heap.size A es.length es)(ok:∀x∈es,x.1<n/\x.2<n)(hn:n<=1000)(he:es.length<=1000):Calls Tryz.prog 133 #[.int .i64 n,.slice A es.length c,.int .i64 (-1)] w (aGj n es w):=by
 obtain⟨HE,bM,HP⟩:=dZ hE ok (aAG n es w);clear hE ok;obtain⟨i0,iW,KC,EI,hi3⟩:=info_parts NM;obtain⟨ES,wX,KN⟩:=dZ iW KC EI;have KM:Hid (i0.bytes<=16):=lH (by rw[hi3];decide);clear iW KC EI hi3;have cI:Hid (Below w.heap.size w (w.alloc (.cells #[.int .i64 (-1)] 3))):=lH (bA);have FV:(w.alloc (.cells #[.int .i64 (-1)] 3)).cell? ⟨w.heap.size,0,none⟩=some (.int .i64 (-1)):=(aD.new w 3 #[.int .i64 (-1)]).cell 0;go_enter Tryz.func133,Tryz.ntmps133
 generalize hW1:w.alloc (.cells #[.int .i64 (-1)] 3)=w1 at *
 go_wp2_with fail
 refine(T5 (-1) w.heap.size n w1 FV hn).mono ?_;rintro e w2 ⟨g,rfl,hg,dO,k2⟩;have dN:=cJ cI k2;have jA:Hid (aD w2 g 3 (ints (List.replicate n (-1))).toArray):=lH (by unfold ints;rw[List.map_replicate];exact dO);have hwg:w.heap.size<=g:=b_ cI.o.size hg;clear dO k2 FV hW1 hg cI
 go_wp2_with fail
 go_loopw [8,19] (fun v8 v19 wr=>∃(i:Nat)(out:List Int)(m:Int),i<=n/\v19=.int .i64 i/\v8=.int .i64 m/\S6 n es (n-i) i (out,m)=S6 n es n 0 (List.replicate n (-1),0)/\Ps n m out []/\0<=m/\m<=i/\Below w.heap.size w wr/\aD wr g 3 (ints out).toArray) (fun _ v19 _=>n-(intOf v19).toNat)
 case atStart=>exact⟨0,List.replicate n (-1),0,by omega,rfl,rfl,rfl,⟨by simp,fun _ h=>(by cases h),fun x hx=>(by rw[List.eq_of_mem_replicate hx];omega)⟩,by omega,by omega,dN.o,jA.o⟩
 case round=>
  clear dN jA;obtain⟨i,out,m,hi,rfl,rfl,hf,DE,VJ,jZ,hb,dO⟩:=hrel;obtain⟨HF,JB,HB,HG⟩:=h_ hf DE hb dO;have hol:=DE.len;have E8:=dO.lt;clear hf DE hb dO;by_cases aR:i<n
  ·have jI:=tH HG.o (by rw[hol];exact aR)
   have hfz:=HG.o.frozen i;have BS:(i:Int)<(n:Int):=by omega
   by_cases hz:0<=out.getD i 0
   ·have HZ:=lH hz
    have HGE:decide (out.getD i 0<0)=false:=decide_eq_false (by omega);generalize out.getD i 0=z at jI hz HGE;have HOL:=lH hol;clear hol HGE;(go_wp2_with fail);go_roundw
    case rel=>exact⟨i+1,out,m,by omega,by go_num,rfl,by rw[<-HF.o,aDI aR HZ.o],JB.o,VJ,by omega,HB.o,HG.o⟩
    case measure=>simp[intOf];omega
   ·have HZ:=lH hz
    have aR3:Hid (i<out.length):=lH (by rw[hol];exact aR);have HOL:=lH hol;have aYj:Hid (out.getD i 0<0):=lH (by omega);generalize out.getD i 0=z at jI hz;have hz':z<0:=by omega
    have fV:=lH (HB.o.setCell (p:=⟨g,i,none⟩) (by simp;omega) (.int .i64 m));have SZ:=lH (GP (i:=i) HG.o m);clear hz hol;(go_wp2_with fail);have bP:=lH (fV.o.alloc fV.o.size (.cells #[.int .i64 i] 3));have HG4:=lH (SZ.o.alloc (.cells #[.int .i64 i] 3));have HQ4:Hid (Qu ((wr.setCell ⟨g,i,none⟩ (.int .i64 m)).alloc (.cells #[.int .i64 i] 3)) (g+1) (.slice (some ⟨wr.heap.size,0,none⟩) 1 1) (ints (e_ [i]))):=lH (by
     have hb:=aD.new (wr.setCell ⟨g,i,none⟩ (.int .i64 m)) 3 #[.int .i64 i];have hZ:(wr.setCell ⟨g,i,none⟩ (.int .i64 m)).heap.size=wr.heap.size:=by simp
     rw[hZ] at hb;refine⟨wr.heap.size,0,1,rfl,by omega,hb.lt,lR,by simp only[maxLen];omega,fun j hj=>?_,fun j u hu=>?_⟩
     ·have NU:j=0:=by omega
      subst NU;exact⟨by rw[hb.cell 0];rfl,hb.frozen 0⟩
     ·have NU:j=0:=by have:=(cY.1 hu).1;simpa[ints,e_] using this
      subst NU;rw[Nat.add_zero,hb.cell 0];simpa[ints,e_] using hu)
    have hs4:g+1<=((wr.setCell ⟨g,i,none⟩ (.int .i64 m)).alloc (.cells #[.int .i64 i] 3)).heap.size:=by simp;omega
    have aXZ:Hid (Ps n m (out.set i m) [i]):=lH ⟨by simp[HOL.o],fun v hv=>by rw[List.mem_singleton.1 hv];exact aR,fun x hx=>by
     rcases List.mem_or_eq_of_mem_set hx with hx | rfl
     ·exact JB.o.bd x hx
     ·omega⟩
    have HM4:Hid (([i]:List Nat).length+CX (out.set i m)<=n+1):=lH (by
     have h1:=G4 out i m VJ aR3.o aYj.o;have h2:=aIk out;have h3:=HOL.o;simp;omega)
    generalize hW4:(wr.setCell ⟨g,i,none⟩ (.int .i64 m)).alloc (.cells #[.int .i64 i] 3)=w4 at *;obtain⟨R0,hR0⟩:∃R0,R0=CU m es (n+1) (out.set i m) [i]:=⟨_,rfl⟩;have F4:=lH hR0;clear hW4 jI hfz fV SZ aR3 aYj hR0
    go_loopg [10] (n+1) (fun f v10 wr=>∃(out:List Int)(q:List Nat),Ps n m out q/\CU m es f out q=R0/\q.length+CX out<=f/\f<=n+1/\Below w.heap.size w wr/\aD wr g 3 (ints out).toArray/\Qu wr (g+1) v10 (ints (e_ q))/\g+1<=wr.heap.size)
    case atStart=>exact⟨out.set i m,[i],aXZ.o,F4.o.symm,HM4.o,by omega,bP.o,HG4.o,HQ4.o,hs4⟩
    case round=>
     clear bP HG4 HQ4 aXZ HM4 hs4 E8 JB HG HB HOL;obtain⟨out2,q2,DE,aQP,qJ,hgn,hb,dO,hq,hs⟩:=hrel;obtain⟨JB,aSV,HB,HG,HMM⟩:=iS DE aQP hb dO qJ;obtain⟨qb,qo,qc,rfl,hqg,a2B,hqc,hqm,hqh,hqx⟩:=hq.ex;have hql:(ints (e_ q2)).length=q2.length:=by simp[ints,e_]
     rw[hql] at hqc hq ⊢;have HQ:=lH hq;clear DE hb dO hq aQP qJ hql;cases q2 with
     | nil=>
      clear hqx hqh;simp only[zW_] at *;(go_wp2_with fail);go_roundw
      case rel=>exact⟨i+1,out2,m+1,by omega,by go_num,by go_num,by rw[<-HF.o,aDH aR (by have:=HZ.o;omega),<-F4.o,<-aSV.o,aDJ],⟨JB.o.len,JB.o.lt,fun x hx=>by have:=JB.o.bd x hx;omega⟩,by omega,by omega,HB.o,HG.o⟩
      case measure=>simp[intOf];omega
     | cons u q=>
      have hul:=JB.o.lt u (List.mem_cons_self ..);have hq0:=hqx 0 (.int .i64 u) rfl;rw[Nat.add_zero] at hq0;have hqt:=HQ.o;rw[show ints (e_ (u::q))=.int .i64 u::ints (e_ q) from rfl] at hqt;have hqt:=hqt.tail;rw[EX,Nat.add_sub_cancel] at hqt;have a2C:(0:Int)<((q.length+1:Nat):Int):=by omega
      have pH:1<=q.length+1:=by omega
      have hqd:decide (0<q.length+1)=true:=by simp
      have aIC:q.length+1-1=q.length:=by omega
      have a2E:1<=qc:=by rw[EX] at hqc;omega
      have a2D:q.length+1<=qc:=by rw[EX] at hqc;exact hqc
      generalize hqa:(if qc=1 then some (⟨qb,qo,none⟩:Addr) else some ⟨qb,qo+1,none⟩)=qa at hqt;have HQT:=lH hqt;have hln:(u::q).length=q.length+1:=rfl;rw[hln] at hqc ⊢;have HLQ:=lH hln;clear hqt hqx hqh hln;generalize hql:q.length+1=ql at *;have lP:=lH hql;clear hql;(go_wp2_with fail);have hwo:=HB.o.size;obtain⟨S0,hS0⟩:∃S0,S0=oA u m es (out2,q):=⟨_,rfl⟩;have OI:=lH hS0;obtain⟨C0,hC0⟩:∃C0,C0=q.length+CX out2:=⟨_,rfl⟩;have HC0:=lH hC0;have aXY:Hid (Ps n m out2 q):=lH ⟨JB.o.len,fun v hv=>JB.o.lt v (List.mem_cons_of_mem _ hv),JB.o.bd⟩;have aSU:Hid (0<gk->CU m es (gk-1) S0.1 S0.2=R0):=lH (fun h=>by rw[<-aSV.o,aIb h,<-OI.o]);have aGA:Hid (1+C0<=gk):=lH (by have:=HMM.o;rw[EX] at this;omega);clear aSV HMM hS0 hC0 JB
      go_loopw [10,43] (fun v10 v43 wr=>∃(k:Nat)(out:List Int)(q:List Nat),k<=es.length/\v43=.int .i64 k/\Ps n m out q/\oA u m (es.drop k) (out,q)=S0/\q.length+CX out=C0/\Below w.heap.size w wr/\aD wr g 3 (ints out).toArray/\Qu wr (g+1) v10 (ints (e_ q))/\g+1<=wr.heap.size) (fun _ v43 _=>es.length-(intOf v43).toNat)
      case atStart=>exact⟨0,out2,q,by omega,rfl,aXY.o,OI.o.symm,HC0.o.symm,HB.o,HG.o,by have h:=HQT.o;rw[<-hqa] at h;first | exact h | (rw[hqa] at h;exact h),hs⟩
      case round=>
       clear aXY HB HG HQT HQ;obtain⟨k,out3,q3,hk,rfl,DE,hsc,LS,hb,dO,LN,hs3⟩:=hrel;obtain⟨JB,HSC,HCC,HB,HG⟩:=iS DE hsc LS hb dO;have HQ:=lH LN;have aQj:=lH DE.len;clear DE hsc LS hb dO LN;by_cases aVp:k<es.length
       ·obtain⟨⟨xa,xb⟩,hx⟩:∃x,es[k]?=some x:=⟨_,gS aVp⟩
        have hE:=(HE.o.below HB.o lR).more HB.o.size;obtain⟨eb,eo,heA,heb⟩:=hE.form (by omega);subst heA;obtain⟨e0,e1⟩:=hE.at_ hx;dsimp only at e0 e1;obtain⟨hxa,hxb⟩:=bM.o _ (bS hx);dsimp only at hxa hxb;have f_:(k:Int)<(es.length:Int):=by omega
        have hkm:((k:Int) == -1)=false:=by simp
        have gZ:=lH (P8 (u:=u) (s:=(out3,q3)) VJ (bM.o _ (bS hx)) JB.o);have zG:Hid (oA u m (es.drop (k+1)) (mF u m (out3,q3) (xa,xb))=S0):=lH (by rw[<-HSC.o,UC hx]);obtain⟨OZ,EU,HQA⟩:=dZ (HB.o.alloc HB.o.size (.cells #[.int .i64 xa,.int .i64 xb] 166)) (HG.o.alloc (.cells #[.int .i64 xa,.int .i64 xb] 166)) (HQ.o.up (bR.alloc lR (.cells #[.int .i64 xa,.int .i64 xb] 166)));have aFc:=aD.new wr 166 #[.int .i64 xa,.int .i64 xb];obtain⟨b0,b1⟩:=aFc.a2;have a3o:g<wr.heap.size:=by omega
        clear hE hx aFc;unfold mF at gZ zG;by_cases hh:xa=u\/xb=u
        ·by_cases ha:xa=u
         ·subst ha
          have hna:((xa:Int) != (xa:Int))=false:=by simp
          have ho:xa+xb-xa=xb:=by omega
          dsimp only at gZ zG;rw[ho] at gZ zG;have yY:(wr.alloc (.cells #[.int .i64 xa,.int .i64 xb] 166)).cell? ⟨g,xb,none⟩=some (.int .i64 (out3.getD xb 0)):=tH EU.o (by rw[aQj.out];omega);have hoI:(xb:Int)<(n:Int):=by omega
          have hfz:=EU.o.frozen xb;by_cases hz:out3.getD xb 0<0
          ·have HZ:=lH hz
           rw[if_pos ⟨hh,hz⟩] at gZ zG;generalize out3.getD xb 0=z at yY hz;have LQ:(ints (e_ q3)).length<=1000000:=by
            have h1:=HCC.o;have h2:=aGA.o;simp only[ints,e_,iT];omega
           have lG:=lH ((HB.o.setCell (p:=⟨g,xb,none⟩) (by simp;omega) (.int .i64 m)).alloc (by simp;omega) (.cells #[.int .i64 xa,.int .i64 xb] 166));have HG7:=lH ((GP (i:=xb) HG.o m).alloc (.cells #[.int .i64 xa,.int .i64 xb] 166));have HQ7:=lH ((HQ.o.away (q:=⟨g,xb,none⟩) (by simp) (.int .i64 m)).up (bR.alloc lR (.cells #[.int .i64 xa,.int .i64 xb] 166)));generalize JN:(wr.setCell ⟨g,xb,none⟩ (.int .i64 m)).alloc (.cells #[.int .i64 xa,.int .i64 xb] 166)=w7 at lG HG7 HQ7;have hs7:wr.heap.size+1=w7.heap.size:=by rw[<-JN];simp
           have dS:Hid (Below w.heap.size w (((wr.setCell ⟨g,xb,none⟩ (.int .i64 m)).alloc (.cells #[.int .i64 xa,.int .i64 xb] 166)).alloc (.cells #[.int .i64 ((xa:Int)+xb-xa)] 3))):=lH (by rw[JN];exact lG.o.alloc lG.o.size (.cells #[.int .i64 ((xa:Int)+xb-xa)] 3));have HG8:Hid (aD (((wr.setCell ⟨g,xb,none⟩ (.int .i64 m)).alloc (.cells #[.int .i64 xa,.int .i64 xb] 166)).alloc (.cells #[.int .i64 ((xa:Int)+xb-xa)] 3)) g 3 (ints (out3.set xb m)).toArray):=lH (by rw[JN];exact HG7.o.alloc (.cells #[.int .i64 ((xa:Int)+xb-xa)] 3));have HQ8:Hid (Qu (((wr.setCell ⟨g,xb,none⟩ (.int .i64 m)).alloc (.cells #[.int .i64 xa,.int .i64 xb] 166)).alloc (.cells #[.int .i64 ((xa:Int)+xb-xa)] 3)) (g+1) u10 (ints (e_ q3))):=lH (by rw[JN];exact HQ7.o.up (bR.alloc lR (.cells #[.int .i64 ((xa:Int)+xb-xa)] 3)));have HC8:Hid ((((wr.setCell ⟨g,xb,none⟩ (.int .i64 m)).alloc (.cells #[.int .i64 xa,.int .i64 xb] 166)).alloc (.cells #[.int .i64 ((xa:Int)+xb-xa)] 3)).cell? ⟨wr.heap.size+1,0,none⟩=some (.int .i64 ((xa:Int)+xb-xa))):=lH (by
            rw[JN];have h:=(aD.new w7 3 #[.int .i64 ((xa:Int)+xb-xa)]).cell 0;rw[<-hs7] at h;simpa using h)
           have hs8:g+1<=(((wr.setCell ⟨g,xb,none⟩ (.int .i64 m)).alloc (.cells #[.int .i64 xa,.int .i64 xb] 166)).alloc (.cells #[.int .i64 ((xa:Int)+xb-xa)] 3)).heap.size:=by simp;omega
           clear hs7 JN lG HG7 HQ7
           go_wp2_with (at_builtin;refine t6 _ rfl (.tmp 79) (.tmp 81) 30 rfl (g+1) 3 i0 (.int .i64 0) Tryz.underlying30 ES.o wX.o KN.o KM.o rfl u10 _ rfl HQ8.o ⟨wr.heap.size+1,0,none⟩ 1 _ rfl HC8.o rfl rfl LQ hs8 ?_;intro v' w9 hq9 gD)
           go_roundw
           case rel=>
            have hq:ints (e_ q3)++[Value.int .i64 ((xa:Int)+xb-xa)]=ints (e_ (q3++[xb])):=by
             first | exact wH _ _ | (rw[<-wH];congr 1<;>first | rfl | (congr 2;omega))
            rw[hq] at hq9;have h1:=gZ.o;exact⟨k+1,_,_,by omega,by go_num,h1.1,zG.o,h1.2.1.trans HCC.o,dS.o.trans (gD.mono (by omega)),HG8.o.below gD (by omega),hq9,b_ hs8 gD.size⟩
           case measure=>simp[intOf];omega
          ·rw[if_neg (fun h=>hz h.2)] at gZ zG
           have l_:decide (out3.getD xb 0<0)=false:=decide_eq_false hz;generalize out3.getD xb 0=z at yY hz l_;(go_wp2_with fail);go_roundw
           case rel=>exact⟨k+1,out3,q3,by omega,by go_num,JB.o,zG.o,HCC.o,OZ.o,EU.o,HQA.o,by simp;omega⟩
           case measure=>simp[intOf];omega
         ·have hb:xb=u:=hh.resolve_left ha
          subst hb;have hna:((xa:Int) != (xb:Int))=true:=by simp;omega
          have a2P:((xb:Int) != (xb:Int))=false:=by simp
          have ho:xa+xb-xb=xa:=by omega
          dsimp only at gZ zG;rw[ho] at gZ zG;have yY:(wr.alloc (.cells #[.int .i64 xa,.int .i64 xb] 166)).cell? ⟨g,xa,none⟩=some (.int .i64 (out3.getD xa 0)):=tH EU.o (by rw[aQj.out];omega);have hoI:(xa:Int)<(n:Int):=by omega
          have hfz:=EU.o.frozen xa;by_cases hz:out3.getD xa 0<0
          ·have HZ:=lH hz
           rw[if_pos ⟨hh,hz⟩] at gZ zG;generalize out3.getD xa 0=z at yY hz;have LQ:(ints (e_ q3)).length<=1000000:=by
            have h1:=HCC.o;have h2:=aGA.o;simp only[ints,e_,iT];omega
           have lG:=lH ((HB.o.setCell (p:=⟨g,xa,none⟩) (by simp;omega) (.int .i64 m)).alloc (by simp;omega) (.cells #[.int .i64 xa,.int .i64 xb] 166));have HG7:=lH ((GP (i:=xa) HG.o m).alloc (.cells #[.int .i64 xa,.int .i64 xb] 166));have HQ7:=lH ((HQ.o.away (q:=⟨g,xa,none⟩) (by simp) (.int .i64 m)).up (bR.alloc lR (.cells #[.int .i64 xa,.int .i64 xb] 166)));generalize JN:(wr.setCell ⟨g,xa,none⟩ (.int .i64 m)).alloc (.cells #[.int .i64 xa,.int .i64 xb] 166)=w7 at lG HG7 HQ7;have hs7:wr.heap.size+1=w7.heap.size:=by rw[<-JN];simp
           have dS:Hid (Below w.heap.size w (((wr.setCell ⟨g,xa,none⟩ (.int .i64 m)).alloc (.cells #[.int .i64 xa,.int .i64 xb] 166)).alloc (.cells #[.int .i64 (xa:Int)] 3))):=lH (by rw[JN];exact lG.o.alloc lG.o.size (.cells #[.int .i64 (xa:Int)] 3));have HG8:Hid (aD (((wr.setCell ⟨g,xa,none⟩ (.int .i64 m)).alloc (.cells #[.int .i64 xa,.int .i64 xb] 166)).alloc (.cells #[.int .i64 (xa:Int)] 3)) g 3 (ints (out3.set xa m)).toArray):=lH (by rw[JN];exact HG7.o.alloc (.cells #[.int .i64 (xa:Int)] 3));have HQ8:Hid (Qu (((wr.setCell ⟨g,xa,none⟩ (.int .i64 m)).alloc (.cells #[.int .i64 xa,.int .i64 xb] 166)).alloc (.cells #[.int .i64 (xa:Int)] 3)) (g+1) u10 (ints (e_ q3))):=lH (by rw[JN];exact HQ7.o.up (bR.alloc lR (.cells #[.int .i64 (xa:Int)] 3)));have HC8:Hid ((((wr.setCell ⟨g,xa,none⟩ (.int .i64 m)).alloc (.cells #[.int .i64 xa,.int .i64 xb] 166)).alloc (.cells #[.int .i64 (xa:Int)] 3)).cell? ⟨wr.heap.size+1,0,none⟩=some (.int .i64 (xa:Int))):=lH (by
            rw[JN];have h:=(aD.new w7 3 #[.int .i64 (xa:Int)]).cell 0;rw[<-hs7] at h;simpa using h)
           have hs8:g+1<=(((wr.setCell ⟨g,xa,none⟩ (.int .i64 m)).alloc (.cells #[.int .i64 xa,.int .i64 xb] 166)).alloc (.cells #[.int .i64 (xa:Int)] 3)).heap.size:=by simp;omega
           clear hs7 JN lG HG7 HQ7
           go_wp2_with (at_builtin;refine t6 _ rfl (.tmp 79) (.tmp 81) 30 rfl (g+1) 3 i0 (.int .i64 0) Tryz.underlying30 ES.o wX.o KN.o KM.o rfl u10 _ rfl HQ8.o ⟨wr.heap.size+1,0,none⟩ 1 _ rfl HC8.o rfl rfl LQ hs8 ?_;intro v' w9 hq9 gD)
           go_roundw
           case rel=>
            have hq:ints (e_ q3)++[Value.int .i64 (xa:Int)]=ints (e_ (q3++[xa])):=by
             first | exact wH _ _ | (rw[<-wH];congr 1<;>first | rfl | (congr 2;omega))
            rw[hq] at hq9;have h1:=gZ.o;exact⟨k+1,_,_,by omega,by go_num,h1.1,zG.o,h1.2.1.trans HCC.o,dS.o.trans (gD.mono (by omega)),HG8.o.below gD (by omega),hq9,b_ hs8 gD.size⟩
           case measure=>simp[intOf];omega
          ·rw[if_neg (fun h=>hz h.2)] at gZ zG
           have l_:decide (out3.getD xa 0<0)=false:=decide_eq_false hz;generalize out3.getD xa 0=z at yY hz l_;(go_wp2_with fail);go_roundw
           case rel=>exact⟨k+1,out3,q3,by omega,by go_num,JB.o,zG.o,HCC.o,OZ.o,EU.o,HQA.o,by simp;omega⟩
           case measure=>simp[intOf];omega
        ·have hna : ((xa : Int) != (u : Int)) = true := by
          have : xa ≠ u := fun h => hh (.inl h)
          simp;omega
         have hnb : ((xb : Int) != (u : Int)) = true := by
          have : xb ≠ u := fun h => hh (.inr h)
          simp;omega
         rw[if_neg (fun h=>hh h.1)] at gZ zG;(go_wp2_with fail);go_roundw
         case rel=>exact⟨k+1,out3,q3,by omega,by go_num,JB.o,zG.o,HCC.o,OZ.o,EU.o,HQA.o,by simp;omega⟩
         case measure=>simp[intOf];omega
       ·have hkk:k=es.length:=by omega
        subst hkk;(go_wp2_with fail)
        go_roundg (gk-1)
        case rel=>
         have hS:(out3,q3)=S0:=by rw[<-HSC.o,List.drop_length];rfl
         exact⟨out3,q3,JB.o,by rw[<-aSU.o (by have:=aGA.o;omega),<-hS],by have:=aGA.o;have:=HCC.o;omega,by omega,HB.o,HG.o,HQ.o,hs3⟩
        case measure=>have:=aGA.o;omega
  ·have lE:i=n:=by omega
   subst lE;(go_wp2_with fail);go_ret;exact HP.o _ _ ⟨HB.o,g,rfl,hwg,by
    have h:=HG.o;have e:out=jU i es:=by unfold jU;rw[<-HF.o,Nat.sub_self];rfl
    rw[e] at h;exact h⟩
theorem SN.bm{l:List (Nat×Nat)}(h:SN w w.heap.size A n l)(g:Below w.heap.size w w'):SN w' w'.heap.size A n l:=(h.below g lR).more g.size
end
section
def WO(n:Nat)(M:List (List Rat)):Prop:=∀a∈M,a.length=n
theorem XL{A B:List (List Rat)}(h:WO n A)(h2:WO n B):WO n (A++B):=fun a ha=>(List.mem_append.1 ha).elim (h a) (h2 a)
theorem XK(h:a.length=n):WO n [a]:=fun x hx=>by rw[List.mem_singleton.1 hx];exact h
theorem yE{M:List (List Rat)}(h:WO n M):∃(E:List Fn)(piv:List Nat),rW E piv n/\piv.length=cK M/\(∀x,uQ n E x<->uQ n (tG M) x)/\E.length=M.length:=by
 by_cases h0:M=[]
 ·subst h0
  refine⟨[],[],⟨lR,List.Pairwise.nil,fun p hp=>(by cases hp),fun t p a h=>by simp at h,fun t p i a h=>by simp at h,fun t p a h=>by simp at h,fun i a h hi j hj=>by simp at h⟩,rfl,fun x=>Iff.rfl,rfl⟩
 ·exact aDz h fun e=>absurd e h0
theorem XT{M:List (List Rat)}(h:WO n M):cK M<=M.length:=by
 obtain⟨E,piv,h1,h2,_,h4⟩:=yE h;rw[<-h2,<-h4];exact h1.le
theorem aH2{A B:List (List Rat)}(hA:WO n A)(hB:WO n B)(h:∀x,uQ n (tG B) x->uQ n (tG A) x):cK A<=cK B:=by
 obtain⟨E,pe,h1,h2,h3,_⟩:=yE hA;obtain⟨F,pf,g1,g2,g3,_⟩:=yE hB;rw[<-h2,<-g2];exact aAz h1 g1 fun x hx=>(h3 x).2 (h x ((g3 x).1 hx))
theorem aH1{A B:List (List Rat)}(hA:WO n A)(hB:WO n B)(v:Fn)(h:∀x,uQ n (tG A) x->aV n v x=0->uQ n (tG B) x):cK B<=cK A+1:=by
 obtain⟨E,pe,h1,h2,h3,_⟩:=yE hA;obtain⟨F,pf,g1,g2,g3,_⟩:=yE hB;rw[<-h2,<-g2];exact aAy h1 g1 v fun x hx hv=>(g3 x).2 (h x ((h3 x).1 hx) hv)
theorem X9{A B:List (List Rat)}{x:Fn}:uQ n (tG (A++B)) x<->uQ n (tG A) x/\uQ n (tG B) x:=by
 unfold tG uQ;rw[List.map_append];exact⟨fun h=>⟨fun a ha=>h a (List.mem_append_left _ ha),fun a ha=>h a (List.mem_append_right _ ha)⟩,fun h a ha=>(List.mem_append.1 ha).elim (h.1 a) (h.2 a)⟩
theorem aIt{x:Fn}:uQ n (tG [a]) x<->aV n (vf a) x=0:=by
 unfold tG uQ;exact⟨fun h=>h _ (by simp),fun h f hf=>by rw[show f=vf a from by simpa using hf];exact h⟩
theorem XU{M:List (List Rat)}(h:WO n M)(ha:a.length=n):cK (M++[a])=cK M\/cK (M++[a])=cK M+1:=by
 have h1:=aH2 h (XL h (XK ha)) fun x hx=>(X9.1 hx).1;have h2:=aH1 h (XL h (XK ha)) (vf a) fun x hx hv=>X9.2 ⟨hx,aIt.2 hv⟩;omega
def sU:List (List Rat)->List (List Rat)->Nat->List (List Rat)×List Nat
 | rows,[],_=>(rows,[])
 | rows,a::r,i=>if cK rows<cK (rows++[a]) then((sU (rows++[a]) r (i+1)).1,i::(sU (rows++[a]) r (i+1)).2) else sU rows r (i+1)
theorem wV:∀(p rows:List (List Rat)) (i:Nat),∀t∈(sU rows p i).2,i<=t/\t<i+p.length
 | [],rows,i,t,h=>by cases h
 | a::r,rows,i,t,h=>by
  unfold sU at h;simp only[EX];split at h
  ·rcases List.mem_cons.1 h with rfl | h
   ·omega
   ·have:=wV r _ _ t h
    omega
  ·have:=wV r _ _ t h
   omega
end
