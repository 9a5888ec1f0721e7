import Derived.Test.YthgdchffeigkbaaGreatDoorU41
set_option linter.unusedVariables false
set_option linter.unusedSimpArgs false
namespace Go.Proofs.YthgdchffeigkbaaGreatDoor
section
open Go.ChangeShapes Go.WideShapes Go.ChangeAt Go.RowKit
def AnyC (_:Value):Prop:=True
theorem anyC_of {w:World} {base e size n:Nat} {v:Value} {xs:List Value} (h:w.ownsRow base e size v n xs):OwnS AnyC w base e size v n xs:=by
 refine ⟨h.1,?_⟩;rcases h.2 with h1 | ⟨g,cap,cur,h1,h2,h3,h4,h5,h6,h7⟩
 ·exact .inl h1
 ·exact .inr ⟨g,cap,cur,h1,h2,h3,h4,h5,h6,h7,fun _ _=>trivial⟩
section
variable {S:Value→Prop} {w:World} {base T size n k:Nat} {v:Value} {xs:List Value}
theorem OwnS.strike (h:OwnS S w base T size v n xs) (hk:k<n):∃ g cap cur,v=.slice (some ⟨g,0,none⟩) n cap∧base≤g∧Blk w g T cur∧cur.size=cap*size∧n≤cap∧cap≤maxLen∧cur.toList.take (n*size)=xs∧
    ∀ (zc:List Value) (e:Ending) (w':World),DelP g T size n cap k cur zc w e w'→(∀ u∈zc,S u)→e=.returned (.slice (some ⟨g,0,none⟩) (n-1) cap)∧OwnS S w' base T size (.slice (some ⟨g,0,none⟩) (n-1) cap) (n-1) (xs.take (k*size)++xs.drop ((k+1)*size))∧(∀ b,b<w.heap.size→b≠g→w'.heap[b]?=w.heap[b]?)∧Below base w w':=by
 rcases h.2 with ⟨-,h2⟩ | ⟨g,cap,cur,h1,h2,h3,h4,h5,h6,h7,h8⟩
 ·omega
 ·refine ⟨g,cap,cur,h1,h2,h3,h6,h4,h5,h7,fun zc e w' hd hz=>?_⟩
  obtain ⟨d1,cur',d2,d3,d4,d5,d6,d7⟩:=hd;have a2:(k+1)*size≤n*size:=Nat.mul_le_mul_right _ (by omega);have a4:(k+1)*size=k*size+size:=by rw [Nat.add_mul,Nat.one_mul]
  have a5:(n-1)*size+size=n*size:=by rw [←Nat.succ_mul];congr 1;omega
  have hx:=h.1;have e1:cur.toList.take (k*size)=xs.take (k*size):=by
   rw [←h7,List.take_take,Nat.min_eq_left (by omega)]
  refine ⟨d1,⟨?_,.inr ⟨g,cap,cur',rfl,h2,d2,by omega,h5,by rw [d3,h6],by rw [d4,e1,h7],fun u hu=>?_⟩⟩,d6,d7.mono h2⟩
  ·rw [zE_,zF_,zS_,hx]
   omega
  ·rcases d5 u hu with h | h
   ·exact h8 u h
   ·exact hz u h
end
theorem erase_td {α:Type} (l:List α) (k:Nat):l.eraseIdx k=l.take k++l.drop (k+1):=List.eraseIdx_eq_take_drop_succ l k
theorem flat_tk {α:Type} {f:α→List Value} {sz:Nat} (hl:∀ a,(f a).length=sz):∀ (l:List α) (k:Nat),(l.flatMap f).take (k*sz)=(l.take k).flatMap f
 | [],k=>by simp
 | a::l,0=>by simp
 | a::l,k+1=>by
  rw [List.flatMap_cons,zK_,List.flatMap_cons,←flat_tk hl l k,Nat.add_mul,Nat.one_mul,Nat.add_comm,←hl a,List.take_length_add_append]
theorem flat_dp {α:Type} {f:α→List Value} {sz:Nat} (hl:∀ a,(f a).length=sz):∀ (l:List α) (k:Nat),(l.flatMap f).drop (k*sz)=(l.drop k).flatMap f
 | [],k=>by simp
 | a::l,0=>by simp
 | a::l,k+1=>by
  rw [List.flatMap_cons,List.drop_succ_cons,←flat_dp hl l k,Nat.add_mul,Nat.one_mul,Nat.add_comm,←hl a,List.drop_length_add_append]
theorem mi_erase (l:List Mi) (k:Nat):(l.flatMap Mi.cells).take (k*4)++(l.flatMap Mi.cells).drop ((k+1)*4)=(l.eraseIdx k).flatMap Mi.cells:=by
 rw [flat_tk Mi.len,flat_dp Mi.len,erase_td,List.flatMap_append]
theorem natI_erase (l:List Nat) (k:Nat):(natI l).take (k*1)++(natI l).drop ((k+1)*1)=natI (l.eraseIdx k):=by
 unfold natI;rw [erase_td,List.map_append,List.map_take,List.map_drop,Nat.mul_one,Nat.mul_one]
theorem natI_one (l:List Nat):∀ u∈natI l,u.oneCell'=true:=fun u hu=>by
 unfold natI at hu;obtain ⟨x,-,rfl⟩:=List.mem_map.1 hu;rfl
theorem mi_one (l:List Mi):∀ u∈l.flatMap Mi.cells,u.oneCell'=true:=fun u hu=>by
 obtain ⟨m,-,h⟩:=List.mem_flatMap.1 hu;simp [Mi.cells] at h;rcases h with rfl | rfl | rfl | rfl<;>rfl
theorem natI_get {l:List Nat} {k i:Nat} (h:l[k]?=some i):(natI l)[k]?=some (.int .i64 (i:Int)):=by
 unfold natI;rw [zM_,h];rfl
theorem own_ints {w:World} {base:Nat} {v:Value} {l:List Nat} (h:OwnS IsI w base 3 1 v l.length (natI l)):∃ A c,v=.slice A l.length c∧RdI w w.heap.size A l.length (natJ l)∧l.length≤c∧c≤maxLen:=by
 obtain ⟨A,c,h1,h2,h3,h4,-⟩:=own_rd h.own;refine ⟨A,c,h1,?_,h3,h4⟩;have e:natI l=ints (natJ l):=by unfold natI natJ ints;rw [List.map_map];rfl
 unfold RdI;rw [←e];exact h2
theorem wpList_appI {ops:Array Oper} {rest:List Oper} {o:Oper} {a:Act} {Q:Exit→Act→World→Prop} {w:World} {T:TypeId} (hgd:o.guard=none) (s x:Operand) (t:TypeId)
    (ho:o.op=.call { callee:=.builtin .append,args:=#[s,x],argTypes:=#[t,t] }) (base:Nat)
    (ht:Tryz.prog.underlying t=some (.slice 3)) (v:Value) (l:List Nat) (k:Nat) (hs:a.eval s=v) (hown:OwnS IsI w base 3 1 v l.length (natI l))
    (hx:a.eval x=.slice (some ⟨w.heap.size,0,none⟩) 1 1) (h63:l.length≤1000000) (hbase:base≤w.heap.size)
    (h:∀ v' w',OwnS IsI w' base 3 1 v' (l++[k]).length (natI (l++[k]))→Below base w w'→(v'.ownBlock=v.ownBlock∨∃ b,v'.ownBlock=some b∧w.heap.size≤b)→(∀ b,b<w.heap.size→v.ownBlock≠some b→w'.heap[b]?=w.heap[b]?)→(∀ b t cs,Blk w b t cs→t≠3→Blk w' b t cs)→w.heap.size≤w'.heap.size→wpList Tryz.prog ops Q rest (a.put o.dst v') w') :
    wpList Tryz.prog ops Q (o::rest) a (w.alloc (.cells #[.int .i64 (k:Int)] T)):=by
 obtain ⟨i0,hi0,hz0,hz1,hz2⟩:=info_parts infoIn;have hal:Below w.heap.size w (w.alloc (.cells #[.int .i64 (k:Int)] T)):=bA;refine wpList_plain hgd fun K hK=>?_;refine wp_app_blk (S:=IsI) s x t ho base 3 i0 _ 1 8 ht hi0 hz0 hz1 hz2 rfl (by omega) zi_I v l.length (natI l) hs (hown.keep hal) w.heap.size T #[.int .i64 (k:Int)] hx (Blk.new w T _) rfl ?k1 ?k2 ?k3 ?k4 ?k5
 case k1=>simp [Value.oneCell',IsI]
 case k2=>simp only [maxLen];omega
 case k3=>omega
 case k4=>exact zI_ hbase hal.size
 case k5=>
  intro v' w' g1 g2 g3 g4;refine hK _ _ (h v' w' ?_ ((hal.mono hbase).trans g2.low) ?_ ?_ ?_ (zI_ hal.size g2.size))
  ·rw [zE_,List.length_singleton]
   unfold natI at *;rw [List.map_append];exact g1
  ·rcases g3 with h | h
   ·exact .inl h
   ·exact .inr ⟨_,h,hal.size⟩
  ·intro b hb hne
   rw [g4 b (zJ_ hb hal.size) hne];exact hal.block b hb
  ·intro b t' cs hb hne
   exact g2.blk b t' cs (hb.bl hal) hne
end
end Go.Proofs.YthgdchffeigkbaaGreatDoor
