/- THE ABSTRACT MACHINE -/
import Derived.Shelf.Strings.BuilderK
import Derived.Test.YtjmhpjoedfegkaaGreatDoorHmVx
open Option renaming some->O,none->N
open List renaming length->Z
open List renaming getElem?_set_ne->zG,map_cons->zH,map_nil->zI,map_toArray->zK
open Nat renaming lt_of_lt_of_le->zE,le_refl->zF,lt_or_ge->zJ
open Array renaming getElem?_modify->zB,getElem?_eq_none->zD
open UInt8 renaming ofNat->zL
open Option.some renaming injEq->zA
open Prod.mk renaming injEq->zC
namespace Go.Am
open Go.RowKit
section
variable {P:Program}(w:World)
def ZgH (w:World)(v v':Value):Prop:=v'.ownBlock=v.ownBlock\/∀ g,v'.ownBlock=O g->w.heap.size<=g
theorem ZjH (base:Nat)(t ty e:TypeId)(i:TypeInfo)(z:Value)(size h:Nat)(ht:P.underlying t=O (.slice e))(hi:P.info? e=O i)(hz:i.zero=O z)
 (C:i.size=size) (K:i.bytes=h) (X:z.cells.size=size) (T:0<size)
 (v:Value) (n:Nat) (xs:List Value) (B:w.ownsRowF base e size v n xs)
 (a:Addr) (m c:Nat) (news:List Value) (R:Z news=m*size) (A:∀ j u,news[j]?=O u->w.cell? (a.add j)=O u) (h1:∀ u∈news,u.oneCell'=true)
 (F:n+m<=maxLen) (y:(n+m)*h<=140737488355328) (G:base<=w.heap.size) :
 ∃ v' w',(Builtin.append_ #[t,t] ty #[v,.slice (O a) m c]).run P w=.ok v' w'/\w'.ownsRowF base e size v' (n+m) (xs++news)/\w.grownBy w' v.ownBlock/\ZgH w v v':=by
 obtain⟨v',w',r1,r2,r3,_⟩:=run_append_ownF (P:=P) w base t ty e i z size h ht hi hz C K X T v n xs B a m c news R A h1 F y G;refine⟨v',w',r1,r2,r3,?_⟩;rcases B.2 with ⟨rfl,rfl⟩|⟨g,cap,cur,fz,rfl,af,hg,ac,ah,ag,ab,ae⟩
 ·right;obtain⟨v2,w2,q1,q2,_⟩:=run_append_ownF (P:=P) w w.heap.size t ty e i z size h ht hi hz C K X T (.slice N 0 0) 0 xs ⟨B.1,.inl ⟨rfl,rfl⟩⟩ a m c news R A h1 F y (zF _);rw[r1]at q1;injection q1 with q1 q3;subst q1 q3;exact λg hg=>(q2.lt g hg).1
 ·subst C;subst K
  by_cases D:n+m<=cap
  ·have Q:n*i.size+Z news<=cur.size:=by rw[R,ab,<-Nat.add_mul];exact Nat.mul_le_mul_right _ D
   have E:=run_append_roomF (P:=P) w t ty e i ht hi g n cap cur fz hg ac a m c news R A h1 D Q;rw[r1]at E;injection E with E;subst E;exact .inl rfl
  ·have L:∀ j u,xs[j]?=O u->w.cell? ((⟨g,0,N⟩:Addr).add j)=O u:=B.cells (g:=g) rfl;have aa:n+m<=9223372036854775807:=by simp only[maxLen]at F;omega
   have E:=run_append_grow (P:=P) w t ty e i z ht hi hz ⟨g,0,N⟩ n cap xs B.1 L a m c news R A b5 b5 (growslice_fits b5 y);rw[r1]at E;injection E with E;subst E;exact .inr λg' ad=>by simp[Value.ownBlock]at ad;omega
theorem ZhB (base:Nat)(t u ty e:TypeId)(i:TypeInfo)(K:P.underlying t=O (.slice e))(L:P.underlying u=O .string)(hi:P.info? e=O i)(hz:i.zero=O (.int .u8 0))
 (h:i.size=1) (D:i.bytes=1)
 (v:Value) (n:Nat) (xs:List Value) (y:w.ownsRowF base e 1 v n xs) (s:ByteArray)
 (B:n+s.size<=maxLen) (z:n+s.size<=140737488355328) (C:base<=w.heap.size) :
 ∃ v' w',(Builtin.append_ #[t,u] ty #[v,.string s]).run P w=.ok v' w'/\w'.ownsRowF base e 1 v' (n+s.size) (xs++Lib.strCells s)/\w.grownBy w' v.ownBlock/\ZgH w v v':=by
 obtain⟨v',w',R,r2,r3,_⟩:=Lib.run_append_own_stringF (P:=P) w base t u ty e i K L hi hz h D v n xs y s B z C;refine⟨v',w',R,r2,r3,?_⟩;rcases y.2 with ⟨rfl,rfl⟩|⟨g,cap,cur,fz,rfl,ae,hg,X,ag,af,T,ab⟩
 ·right;obtain⟨v2,w2,Q,q2,_⟩:=Lib.run_append_own_stringF (P:=P) w w.heap.size t u ty e i K L hi hz h D (.slice N 0 0) 0 xs ⟨y.1,.inl ⟨rfl,rfl⟩⟩ s B z (zF _);rw[R]at Q;injection Q with Q q3;subst Q q3;exact λg hg=>(q2.lt g hg).1
 ·have ac:Z xs=n:=by simpa using y.1
  by_cases F:n+s.size<=cap
  ·have ad:cur.size=cap:=by simpa using T
   have A:=Lib.run_append_room_stringF (P:=P) w t u ty e i K L hi h g n cap cur fz hg (by simpa using X) s F b5;rw[R]at A;injection A with A;subst A;exact .inl rfl
  ·have E:∀ j u,xs[j]?=O u->w.cell? ((⟨g,0,N⟩:Addr).add j)=O u:=y.cells (g:=g) rfl;have G:n+s.size<=9223372036854775807:=by simp only[maxLen]at B;omega
   have A:=Lib.run_append_grow_string (P:=P) w t u ty e i (.int .u8 0) K L hi hz ⟨g,0,N⟩ n cap xs (by rw[h];simpa using ac) E s b5 b5 (by rw[D];exact growslice_fits b5 b5);rw[R]at A;injection A with A;subst A;exact .inr λg' aa=>by simp[Value.ownBlock]at aa;omega
theorem wp_append_slice_x {ops:Array Oper}{rest:List Oper}{o:Oper}{a:Act}{Q:Exit->Act->World->Prop}(R:o.guard=N)(s x:Operand)(t:TypeId)
 (ho:o.op=.call { callee:=.builtin .append,args:=#[s,x],argTypes:=#[t,t] })
 (base:Nat) (e:TypeId) (i:TypeInfo) (z:Value) (size y:Nat) (ht:P.underlying t=O (.slice e)) (hi:P.info? e=O i) (hz:i.zero=O z)
 (D:i.size=size) (L:i.bytes=y) (X:z.cells.size=size) (T:0<size)
 (v:Value) (n:Nat) (xs:List Value) (hs:a.eval s=v) (E:w.ownsRowF base e size v n xs)
 (F:Addr) (m c:Nat) (news:List Value) (hx:a.eval x=.slice (O F) m c) (hl:Z news=m*size) (C:∀ j u,news[j]?=O u->w.cell? (F.add j)=O u) (h1:∀ u∈news,u.oneCell'=true)
 (G:n+m<=maxLen) (A:(n+m)*y<=140737488355328) (B:base<=w.heap.size)
 (h:∀ v' w',w'.ownsRowF base e size v' (n+m) (xs++news)->w.grownBy w' v.ownBlock->ZgH w v v'->wpList P ops Q rest (a.put o.dst v') w'):wpList P ops Q (o::rest) a w:=by
 refine wpList_plain R λK hK=>?_;obtain⟨v',w',hr,h2,h3,h4⟩:=ZjH (P:=P) w base t o.type e i z size y ht hi hz D L X T v n xs E F m c news hl C h1 G A B;unfold Oper.wp execOp;simp only[ho,resolve,invoke,builtin,Sem.run_bind,Sem.run_pure,Result.andThen_ok,zK,zH,zI,hs,hx,hr];exact hK _ _ (h v' w' h2 h3 h4)
theorem wp_append_string_x {ops:Array Oper}{rest:List Oper}{o:Oper}{a:Act}{Q:Exit->Act->World->Prop}(D:o.guard=N)(sl x:Operand)(t u:TypeId)
 (R:o.op=.call { callee:=.builtin .append,args:=#[sl,x],argTypes:=#[t,u] })
 (base:Nat) (e:TypeId) (i:TypeInfo) (ht:P.underlying t=O (.slice e)) (hu:P.underlying u=O .string) (hi:P.info? e=O i) (hz:i.zero=O (.int .u8 0))
 (z:i.size=1) (C:i.bytes=1)
 (v:Value) (n:Nat) (xs:List Value) (X:a.eval sl=v) (A:w.ownsRowF base e 1 v n xs) (s:ByteArray) (hx:a.eval x=.string s)
 (B:n+s.size<=maxLen) (j:n+s.size<=140737488355328) (y:base<=w.heap.size)
 (h:∀ v' w',w'.ownsRowF base e 1 v' (n+s.size) (xs++Lib.strCells s)->w.grownBy w' v.ownBlock->ZgH w v v'->wpList P ops Q rest (a.put o.dst v') w'):wpList P ops Q (o::rest) a w:=by
 refine wpList_plain D λK L=>?_;obtain⟨v',w',T,E,F,G⟩:=ZhB (P:=P) w base t u o.type e i ht hu hi hz z C v n xs A s B j y;unfold Oper.wp execOp;simp only[R,resolve,invoke,builtin,Sem.run_bind,Sem.run_pure,Result.andThen_ok,zK,zH,zI,X,hx,T];exact L _ _ (h v' w' E F G)
end
structure Kept (b:Nat)(w w':World):Prop where
 old:∀ k,k<w.heap.size->k≠b->(∀ v,w.cell? ⟨b,1,N⟩=O v->v.ownBlock≠O k)->w'.heap[k]?=w.heap[k]?
 row:∀ v v' g,w.cell? ⟨b,1,N⟩=O v->w'.cell? ⟨b,1,N⟩=O v'->v'.ownBlock=O g->v.ownBlock=O g\/w.heap.size<=g
structure Chk (b:Nat)(w w':World):Prop where
 size:w'.heap.size=w.heap.size
 old:∀ k,k≠b->w'.heap[k]?=w.heap[k]?
 row:w'.cell? ⟨b,1,N⟩=w.cell? ⟨b,1,N⟩
end Go.Am
namespace Go.Proofs
open Go.Shelf Go.RowKit
variable {P:Program}{ρ:Ren}
theorem Zmv (L:Lays.n240 P ρ)(X:Builder.X72 P ρ)(B b:Nat)(j:List Value)(w:World)(h:Lib.IsBuilderF (ρ.t 72) (ρ.t 5) B b j w) :
 Calls P (ρ.f 240) #[.pointer (O ⟨b,0,N⟩)] w λe w'=>e=.returned (.tuple #[])/\Lib.BuilderAtF (ρ.t 72) (ρ.t 5) B b (.pointer (O ⟨b,0,N⟩)) j w'/\Below B w w'/\Go.Am.Chk b w w':=by
 rcases h with h|h
 ·refine (Any.Builder_copyCheck_fresh L X b w h.cell0 h.shape h.frozen0).mono ?_
  rintro e w' ⟨rfl,rfl⟩
  refine⟨rfl,h.used _,(Below.refl B w).setCell (p:=⟨b,0,N⟩) h.1 _,⟨by simp[World.setCell],λk y=>Below.heap_setCell _ _ _ _ y,?_⟩⟩;obtain⟨_,v,u,_⟩:=h;simp[World.cell?,World.setCell,zB,u]
 ·refine (Any.Builder_copyCheck_used L X b w h.cell0).mono ?_
  rintro e w' ⟨rfl,rfl⟩
  exact⟨rfl,h,Below.refl B _,⟨rfl,λ_ _=>rfl,rfl⟩⟩
set_option maxHeartbeats 2000000 in
set_option maxRecDepth 100000 in
theorem Zys (L:Lays.n167 P ρ)(X:Builder.Extra P ρ)(B b:Nat)(E:List Value)(c:Int)(w:World)(h:Lib.IsBuilderF (ρ.t 72) (ρ.t 5) B b E w)(aj:Z E+1<=140737488355328)(al:B<=w.heap.size) :
 Calls P (ρ.f 167) #[.pointer (O ⟨b,0,N⟩),.int .u8 c] w λe w'=>e=.returned .nilIface/\Lib.BuilderAtF (ρ.t 72) (ρ.t 5) B b (.pointer (O ⟨b,0,N⟩)) (E++[.int .u8 c]) w'/\Below B w w'/\Go.Am.Kept b w w':=by
 obtain⟨i0,hi,af,ag,ah⟩:=info_parts X.infoByte;have mixed:=L.mixed;have t72:=L.t72;have a72:=L.a72;have z72:=L.z72;have v72:=L.v72;have ap:=run_underlying L.t72;have t70:=L.t70;have a70:=L.a70;have z70:=L.z70;have v70:=L.v70;have ao:=run_underlying L.t70;have t5:=L.t5;have a5:=L.a5;have z5:=L.z5;have v5:=L.v5;have u5:=run_underlying L.t5;have t37:=L.t37;have a37:=L.a37;have z37:=L.z37;have v37:=L.v37;have an:=run_underlying L.t37;have t9:=L.t9;have a9:=L.a9;have z9:=L.z9;have v9:=L.v9;have u9:=run_underlying L.t9;have t4:=L.t4;have a4:=L.a4;have z4:=L.z4;have v4:=L.v4;have u4:=run_underlying L.t4;have t164:=L.t164;have a164:=L.a164;have z164:=L.z164;have v164:=L.v164;have ak:=run_underlying L.t164;have ai:∀ args w,(callFunc (ρ.f 240) args).run P w=.ok (.enter (ρ.f 240) args) w:=enters_of L.f240 dz rfl
 go_enter L.f167,Body.n167_ntmps ρ
 go_wp2_with (go_at_fn (ρ.f 240);refine (Zmv { L with } X.toX72 B b E _ h).mono ?_)
 rintro e w1 ⟨rfl,h1,hb1,hC1⟩
 obtain⟨hB,v,C,D,ae⟩:=h1;have c0:w1.cell? ⟨b,0,N⟩=O (.pointer (O ⟨b,0,N⟩)):=by rw[Lib.cell_of_heap C];rfl
 have c1:w1.cell? ⟨b,1,N⟩=O v:=by rw[Lib.cell_of_heap C];rfl
 go_wp2_with (at_builtin;refine Go.Am.wp_append_slice_x _ rfl _ _ (ρ.t 37) rfl B (ρ.t 5) i0 (.int .u8 0) 1 1 L.t37 hi af ag ah rfl di _ _ _ rfl (D.alloc _) ⟨w1.heap.size,0,N⟩ 1 1 [.int .u8 c] rfl rfl ?c1 ?c2 ?c3 ?c4 ?c5 ?_)
 case c1 =>
  intro j u hj
  match j,hj with
  |0,hj=>simp at hj;subst hj;simp[Addr.add]
 case c2=>intro u F;simp at F;subst F;rfl
 case c3=>unfold maxLen;omega
 case c4=>omega
 case c5=>have:=hb1.size;simp;omega
 intro v' w2 A y Q
 have ad:b<w1.heap.size:=by
  rcases zJ b w1.heap.size with h'|h'
  ·exact h'
  ·simp[zD h']at C
 have z:w2.heap[b]?=O (.cells #[.pointer (O ⟨b,0,N⟩),v] (ρ.t 72) (0,0)):=by
  rw[y.block b (by simp;omega) (λe=>ae e.symm),Lib.alloc_old w1 _ b ad];exact C
 have d0:w2.cell? ⟨b,0,N⟩=O (.pointer (O ⟨b,0,N⟩)):=by rw[Lib.cell_of_heap z];rfl
 have d1:w2.cell? ⟨b,1,N⟩=O v:=by rw[Lib.cell_of_heap z];rfl
 have f1:w2.frozen? ⟨b,1,N⟩=false:=Lib.frozen_of_heap z 1
 obtain⟨g,cap,rfl⟩:∃ g cap,v'=.slice (O ⟨g,0,N⟩) (Z E+1) cap:=by
  rcases A.2 with ⟨_,h0⟩|⟨g,cap,cur,fz,hv,_⟩
  ·omega
  ·exact⟨g,cap,hv⟩
 go_wp2
 go_ret
 have am:=hC1.size;have ab:=hC1.old;have R:=hC1.row;refine⟨rfl,?_,?_,⟨λk hk K ac=>?_,λu u' g' F aa G=>?_⟩⟩
 ·exact Lib.BuilderAtF.put (T:=(ρ.t 72)) (e:=(ρ.t 5)) hB z (bs':=E++[.int .u8 c]) (by simpa using A) X.neB5
 ·exact ((hb1.alloc (by have:=hb1.size;omega) _).grown y (by have:=hb1.size;simp;omega) (λk hk=>(D.lt k hk).1)).setCell (p:=⟨b,1,N⟩) hB _
 ·rw[Below.heap_setCell _ _ _ _ K,y.block k (by simp;omega) (λe=>ac v (R ▸ c1) e.symm),Lib.alloc_old w1 _ k b5,ab k K]
 ·rw[R]at c1;rw[c1]at F;injection F with F;subst F
  have:u'=.slice (O ⟨g,0,N⟩) (Z E+1) cap:=by
   simp[World.cell?,World.setCell,zB,z]at aa;exact aa.symm
  subst this;rcases Q with hn|hn
  ·exact .inl (hn ▸ G)
  ·right;have:=hn g' G;simp at this;omega
set_option maxHeartbeats 2000000 in
set_option maxRecDepth 100000 in
theorem Zyt (L:Lays.n166 P ρ)(X:Builder.Extra P ρ)(B b:Nat)(D:List Value)(s:ByteArray)(w:World)(h:Lib.IsBuilderF (ρ.t 72) (ρ.t 5) B b D w)(ai:Z D+s.size<=140737488355328)(ak:B<=w.heap.size) :
 Calls P (ρ.f 166) #[.pointer (O ⟨b,0,N⟩),.string s] w λe w'=>e=.returned (.tuple #[.int .i64 s.size,.nilIface])/\Lib.BuilderAtF (ρ.t 72) (ρ.t 5) B b (.pointer (O ⟨b,0,N⟩)) (D++Lib.strCells s) w'/\Below B w w'/\Go.Am.Kept b w w':=by
 obtain⟨i0,hi,ae,af,ag⟩:=info_parts X.infoByte;have mixed:=L.mixed;have t72:=L.t72;have a72:=L.a72;have z72:=L.z72;have v72:=L.v72;have ap:=run_underlying L.t72;have t70:=L.t70;have a70:=L.a70;have z70:=L.z70;have v70:=L.v70;have an:=run_underlying L.t70;have t37:=L.t37;have a37:=L.a37;have z37:=L.z37;have v37:=L.v37;have am:=run_underlying L.t37;have t3:=L.t3;have a3:=L.a3;have z3:=L.z3;have v3:=L.v3;have u3:=run_underlying L.t3;have t9:=L.t9;have a9:=L.a9;have z9:=L.z9;have v9:=L.v9;have u9:=run_underlying L.t9;have t4:=L.t4;have a4:=L.a4;have z4:=L.z4;have v4:=L.v4;have u4:=run_underlying L.t4;have t164:=L.t164;have a164:=L.a164;have z164:=L.z164;have v164:=L.v164;have aj:=run_underlying L.t164;have t5:=X.t5;have a5:=X.a5;have z5:=X.z5;have v5:=X.v5;have u5:=run_underlying X.t5;have ah:∀ args w,(callFunc (ρ.f 240) args).run P w=.ok (.enter (ρ.f 240) args) w:=enters_of L.f240 dz rfl
 go_enter L.f166,Body.n166_ntmps ρ
 go_wp2_with (go_at_fn (ρ.f 240);refine (Zmv { L with } X.toX72 B b D _ h).mono ?_)
 rintro e w1 ⟨rfl,h1,hb1,hC1⟩
 obtain⟨hB,v,A,C,ad⟩:=h1;have c0:w1.cell? ⟨b,0,N⟩=O (.pointer (O ⟨b,0,N⟩)):=by rw[Lib.cell_of_heap A];rfl
 have c1:w1.cell? ⟨b,1,N⟩=O v:=by rw[Lib.cell_of_heap A];rfl
 go_wp2_with (at_builtin;refine Go.Am.wp_append_string_x _ rfl _ _ (ρ.t 37) (ρ.t 9) rfl B (ρ.t 5) i0 L.t37 L.t9 hi ae af ag _ _ _ rfl C s rfl ?c3 ?c4 ?c5 ?_)
 case c3=>unfold maxLen;omega
 case c4=>omega
 case c5=>have:=hb1.size;omega
 intro v' w2 z j G
 have ac:b<w1.heap.size:=by
  rcases zJ b w1.heap.size with h'|h'
  ·exact h'
  ·simp[zD h']at A
 have y:w2.heap[b]?=O (.cells #[.pointer (O ⟨b,0,N⟩),v] (ρ.t 72) (0,0)):=by
  rw[j.block b ac (λe=>ad e.symm)];exact A
 have d0:w2.cell? ⟨b,0,N⟩=O (.pointer (O ⟨b,0,N⟩)):=by rw[Lib.cell_of_heap y];rfl
 have d1:w2.cell? ⟨b,1,N⟩=O v:=by rw[Lib.cell_of_heap y];rfl
 have f1:w2.frozen? ⟨b,1,N⟩=false:=Lib.frozen_of_heap y 1
 obtain⟨ao,n',cap,rfl⟩:∃ ao n' cap,v'=.slice ao n' cap:=by
  rcases z.2 with ⟨hv,_⟩|⟨g,cap,cur,fz,hv,_⟩
  ·exact⟨_,_,_,hv⟩
  ·exact⟨_,_,_,hv⟩
 go_wp2
 go_ret2
 have al:=hC1.size;have aa:=hC1.old;have K:=hC1.row;refine⟨rfl,?_,?_,⟨λk hk F ab=>?_,λu u' g' R Q E=>?_⟩⟩
 ·exact Lib.BuilderAtF.put (T:=(ρ.t 72)) (e:=(ρ.t 5)) hB y (bs':=D++Lib.strCells s) (by simpa[Lib.strCells_length]using z) X.neB5
 ·exact (hb1.grown j (by have:=hb1.size;omega) (λk hk=>(C.lt k hk).1)).setCell (p:=⟨b,1,N⟩) hB _
 ·rw[Below.heap_setCell _ _ _ _ F,j.block k b5 (λe=>ab v (K ▸ c1) e.symm),aa k F]
 ·rw[K]at c1;rw[c1]at R;injection R with R;subst R
  have:u'=.slice ao n' cap:=by
   simp[World.cell?,World.setCell,zB,y]at Q;exact Q.symm
  subst this;rcases G with hn|hn
  ·exact .inl (hn ▸ E)
  ·right;have:=hn g' E;omega
theorem Zrd (b:Nat)(w:World)(o:Obj)(j:b<w.heap.size):Go.Am.Kept b w (w.drew.alloc o):=by
 refine⟨λk y _ _=>Lib.alloc_old w.drew _ k y,λv v' g z h u=>.inl ?_⟩;have:(w.drew.alloc o).cell? ⟨b,1,N⟩=w.cell? ⟨b,1,N⟩:=by unfold World.cell?;rw[Lib.alloc_old w.drew _ b j];rfl
 rw[this,z]at h;injection h with h;subst h;exact u
theorem ZkA (b:Nat)(w:World):Go.Am.Kept b w w.drew :=
 ⟨λk y _ _=>rfl,λv v' g u h j=>.inl (by
  have:w.drew.cell? ⟨b,1,N⟩=w.cell? ⟨b,1,N⟩:=rfl;rw[this,u]at h;injection h with h;subst h;exact j)⟩
theorem ZoZ {b g n:Nat}{w:World}{c:Nat}{m:Nat}(h:w.cell? ⟨b,1,N⟩=O (.slice (O ⟨g,0,N⟩) m c))(y:g≠b):Go.Am.Kept b w (w.drew.freeze ⟨g,0,N⟩ n):=by
 have u:∀ k,k≠g->(w.drew.freeze ⟨g,0,N⟩ n).heap[k]?=w.heap[k]?:=λk A=>by
  unfold World.freeze;split
  ·rfl
  ·simp only[zB];rw[if_neg (Ne.symm A)];rfl
 refine⟨λk A C z=>u k λe=>z _ h (by subst e;rfl),λv v' E D j B=>.inl ?_⟩;have:(w.drew.freeze ⟨g,0,N⟩ n).cell? ⟨b,1,N⟩=w.cell? ⟨b,1,N⟩:=by unfold World.cell?;rw[u b (Ne.symm y)]
 rw[this,D]at j;injection j with j;subst j;exact B
set_option maxHeartbeats 1000000 in
set_option maxRecDepth 100000 in
theorem Zqo (L:Lays.n169 P ρ)(X:Builder.Extra P ρ)(B b:Nat)(l:dr)(w:World)(h:Lib.IsBuilderF (ρ.t 72) (ρ.t 5) B b (Lib.byteCells l) w)(h0:l≠[]) :
 Calls P (ρ.f 169) #[.pointer (O ⟨b,0,N⟩)] w λe w'=>e=.returned (.string ⟨l.toArray⟩)/\Lib.IsBuilderF (ρ.t 72) (ρ.t 5) B b (Lib.byteCells l) w'/\Below B w w'/\Go.Am.Kept b w w':=by
 obtain⟨p,hp,C⟩:∃ p,(p=.pointer N\/p=.pointer (O ⟨b,0,N⟩))/\Lib.BuilderAtF (ρ.t 72) (ρ.t 5) B b p (Lib.byteCells l) w:=by
  rcases h with h|h
  ·exact⟨_,.inl rfl,h⟩
  ·exact⟨_,.inr rfl,h⟩
 obtain⟨hB,v,z,u,A⟩:=C;have K:Z l≠0:=by simpa using h0
 rw[Lib.byteCells_length]at u
 obtain⟨g,cap,cur,fz,rfl,E,hg,ah,ai,F,ag,Q⟩:∃ g cap cur fz,v=.slice (O ⟨g,0,N⟩) (Z l) cap/\B<=g/\w.heap[g]?=O (.cells cur (ρ.t 5) fz)/\fz.2<=Z l*1/\Z l<=cap/\cap<=maxLen/\cur.size=cap*1/\cur.toList.take (Z l*1)=Lib.byteCells l:=by
  rcases u.2 with ⟨_,hz⟩|⟨g,cap,cur,fz,hv,r⟩
  ·exact absurd hz K
  ·exact⟨g,cap,cur,fz,hv,r⟩
 have T:w.drew.cell? ⟨b,1,N⟩=O (.slice (O ⟨g,0,N⟩) (Z l) cap):=by
  have:w.drew.heap[b]?=O (.cells #[p,.slice (O ⟨g,0,N⟩) (Z l) cap] (ρ.t 72) (0,0)):=z;rw[Lib.cell_of_heap this];rfl
 have hK:Go.Am.Kept b w (w.drew.freeze ⟨g,0,N⟩ (Z l)):=ZoZ (w:=w) (m:=Z l) (c:=cap) T (λe=>A (by simp[Value.ownBlock,e]))
 have ae:(Builtin.unsafeSliceData_ #[(ρ.t 37)] (ρ.t 127) #[.slice (O ⟨g,0,N⟩) (Z l) cap]).run P w.drew=.ok (.pointer (O ⟨g,0,N⟩)) w.drew :=
  Lib.run_unsafeSliceData_row _ _ _ _ _ _ b5
 have af:(Builtin.unsafeString_ #[(ρ.t 127),(ρ.t 3)] (ρ.t 9) #[.pointer (O ⟨g,0,N⟩),.int .i64 (Z l)]).run P w.drew=.ok (.string ⟨l.toArray⟩) (w.drew.freeze ⟨g,0,N⟩ (Z l)):=by
  refine Lib.run_unsafeString_row w.drew (ρ.t 127) (ρ.t 3) (ρ.t 9) (ρ.t 5) L.t127 X.cellsByte g cur.size (by have G:w.drew.heap[g]?=O (.cells cur (ρ.t 5) fz):=hg;simp[World.shape?,G]) l h0 b5 (by unfold maxLen at F;omega) ?_;intro j x hx;have:=u.cells (g:=g) rfl j (.int .u8 x.toNat) (by simp[Lib.byteCells,hx]);exact this
 have y:Lib.IsBuilderF (ρ.t 72) (ρ.t 5) B b (Lib.byteCells l) (w.drew.freeze ⟨g,0,N⟩ (Z l)):=by
  have hA:Lib.BuilderAtF (ρ.t 72) (ρ.t 5) B b p (Lib.byteCells l) w.drew:=⟨hB,_,z,by rw[Lib.byteCells_length];exact u,A⟩;have D:=hA.froze (g:=g) (cap:=cap) (by rw[Lib.byteCells_length];exact T);rw[Lib.byteCells_length]at D;rcases hp with rfl|rfl
  ·exact .inl D
  ·exact .inr D
 have mixed:=L.mixed;have t72:=L.t72;have a72:=L.a72;have z72:=L.z72;have v72:=L.v72;have al:=run_underlying L.t72;have t70:=L.t70;have a70:=L.a70;have z70:=L.z70;have v70:=L.v70;have ak:=run_underlying L.t70;have t37:=L.t37;have a37:=L.a37;have z37:=L.z37;have v37:=L.v37;have aj:=run_underlying L.t37;have aa:=L.t127;have R:=L.a127;have ad:=L.z127;have ac:=L.v127;have ab:=run_underlying L.t127;have t3:=L.t3;have a3:=L.a3;have z3:=L.z3;have v3:=L.v3;have u3:=run_underlying L.t3;have t9:=L.t9;have a9:=L.a9;have z9:=L.z9;have v9:=L.v9;have u9:=run_underlying L.t9;have t5:=X.t5;have a5:=X.a5;have z5:=X.z5;have v5:=X.v5;have u5:=run_underlying X.t5
 go_enter L.f169,Body.n169_ntmps ρ
 go_wp2
 go_region_o
 all_goals (go_wp2;go_ret;exact⟨rfl,y,Lib.below_freeze (Below.drew (Below.refl B w)) (p:=⟨g,0,N⟩) E _,hK⟩)
set_option maxHeartbeats 2000000 in
set_option maxRecDepth 100000 in
theorem Zqp (L:Lays.n169 P ρ)(X:Builder.Extra P ρ)(B b:Nat)(p:Value)(w:World)(h:w.heap[b]?=O (.cells #[p,.slice N 0 0] (ρ.t 72) (0,0)))(C:Lib.BuilderAtF (ρ.t 72) (ρ.t 5) B b p [] w) :
 Calls P (ρ.f 169) #[.pointer (O ⟨b,0,N⟩)] w λe w'=>e=.returned (.string ⟨#[]⟩)/\Lib.BuilderAtF (ρ.t 72) (ρ.t 5) B b p [] w'/\Below B w w'/\Go.Am.Kept b w w':=by
 have D:=ZkA b w;have F:=Any.unsafeString_none L X
 have R:w.drew.cell? ⟨b,1,N⟩=O (.slice N 0 0):=by
  have:w.drew.heap[b]?=O (.cells #[p,.slice N 0 0] (ρ.t 72) (0,0)):=h;rw[Lib.cell_of_heap this];rfl
 have E:(Builtin.unsafeSliceData_ #[(ρ.t 37)] (ρ.t 127) #[.slice N 0 0]).run P w.drew=.ok (.pointer N) w.drew:=rfl;have mixed:=L.mixed;have t72:=L.t72;have a72:=L.a72;have z72:=L.z72;have v72:=L.v72;have Q:=run_underlying L.t72;have t70:=L.t70;have a70:=L.a70;have z70:=L.z70;have v70:=L.v70;have K:=run_underlying L.t70;have t37:=L.t37;have a37:=L.a37;have z37:=L.z37;have v37:=L.v37;have G:=run_underlying L.t37;have u:=L.t127;have j:=L.a127;have A:=L.z127;have z:=L.v127;have y:=run_underlying L.t127;have t3:=L.t3;have a3:=L.a3;have z3:=L.z3;have v3:=L.v3;have T:=run_underlying L.t3;have t9:=L.t9;have a9:=L.a9;have z9:=L.z9;have v9:=L.v9;have u9:=run_underlying L.t9;have t5:=X.t5;have a5:=X.a5;have z5:=X.z5;have v5:=X.v5;have u5:=run_underlying X.t5
 go_enter L.f169,Body.n169_ntmps ρ
 go_wp2
 go_region_o
 all_goals (go_wp2;go_ret;exact⟨rfl,C.drew,Below.drew (Below.refl B w),D⟩)
set_option maxHeartbeats 2000000 in
set_option maxRecDepth 100000 in
theorem Zqq (L:Lays.n169 P ρ)(X:Builder.Extra P ρ)(B b g:Nat)(p:Value)(cur:Array Value)(w:World)(y:B<=w.heap.size)(h:w.heap[b]?=O (.cells #[p,.slice (O ⟨g,0,N⟩) 0 0] (ρ.t 72) (0,0)))(fz:Nat×Nat)(hg:w.heap[g]?=O (.cells cur (ρ.t 5) fz))(Q:Lib.BuilderAtF (ρ.t 72) (ρ.t 5) B b p [] w) :
 Calls P (ρ.f 169) #[.pointer (O ⟨b,0,N⟩)] w λe w'=>e=.returned (.string ⟨#[]⟩)/\Lib.BuilderAtF (ρ.t 72) (ρ.t 5) B b p [] w'/\Below B w w'/\Go.Am.Kept b w w':=by
 have aa:=Any.unsafeString_none L X
 have j:b<w.heap.size:=by
  rcases zJ b w.heap.size with u|u
  ·exact u
  ·simp[zD u]at h
 have R:=Zrd b w (.view ⟨g,0,N⟩ (ρ.t 5)) j
 have G:w.drew.cell? ⟨b,1,N⟩=O (.slice (O ⟨g,0,N⟩) 0 0):=by
  have:w.drew.heap[b]?=O (.cells #[p,.slice (O ⟨g,0,N⟩) 0 0] (ρ.t 72) (0,0)):=h;rw[Lib.cell_of_heap this];rfl
 have T:(Builtin.unsafeSliceData_ #[(ρ.t 37)] (ρ.t 127) #[.slice (O ⟨g,0,N⟩) 0 0]).run P w.drew=.ok (.pointer (O ⟨w.drew.heap.size,0,N⟩)) (w.drew.alloc (.view ⟨g,0,N⟩ (ρ.t 5))) :=
  Lib.run_unsafeSliceData_zero w.drew _ _ (ρ.t 5) L.t127 ⟨g,0,N⟩ 0 ((ρ.t 5),cur.size) (by have z:w.drew.heap[g]?=O (.cells cur (ρ.t 5) fz):=hg;simp[World.shape?,z])
 have K:(w.drew.alloc (.view ⟨g,0,N⟩ (ρ.t 5))).cell? ⟨b,1,N⟩=O (.slice (O ⟨g,0,N⟩) 0 0):=by
  have:(w.drew.alloc (.view ⟨g,0,N⟩ (ρ.t 5))).heap[b]?=_:=(Lib.alloc_old w.drew _ b j).trans h;rw[Lib.cell_of_heap this];rfl
 have c3:(w.alloc (.view ⟨g,0,N⟩ (ρ.t 5))).drew.cell? ⟨b,1,N⟩=O (.slice (O ⟨g,0,N⟩) 0 0):=K;have c0:w.cell? ⟨b,1,N⟩=O (.slice (O ⟨g,0,N⟩) 0 0):=G;have mixed:=L.mixed;have t72:=L.t72;have a72:=L.a72;have z72:=L.z72;have v72:=L.v72;have ad:=run_underlying L.t72;have t70:=L.t70;have a70:=L.a70;have z70:=L.z70;have v70:=L.v70;have ac:=run_underlying L.t70;have t37:=L.t37;have a37:=L.a37;have z37:=L.z37;have v37:=L.v37;have ab:=run_underlying L.t37;have C:=L.t127;have A:=L.a127;have F:=L.z127;have E:=L.v127;have D:=run_underlying L.t127;have t3:=L.t3;have a3:=L.a3;have z3:=L.z3;have v3:=L.v3;have u3:=run_underlying L.t3;have t9:=L.t9;have a9:=L.a9;have z9:=L.z9;have v9:=L.v9;have u9:=run_underlying L.t9;have t5:=X.t5;have a5:=X.a5;have z5:=X.z5;have v5:=X.v5;have u5:=run_underlying X.t5
 go_enter L.f169,Body.n169_ntmps ρ
 go_wp2
 go_region_o
 all_goals (go_wp2;go_ret;exact⟨rfl,Q.drew.alloc _,(Below.drew (Below.refl B w)).alloc y _,R⟩)
set_option maxHeartbeats 2000000 in
set_option maxRecDepth 100000 in
theorem Zqr (L:Lays.n169 P ρ)(X:Builder.Extra P ρ)(B b g cap:Nat)(p:Value)(w:World)(h:cap≠0)(j:w.heap[b]?=O (.cells #[p,.slice (O ⟨g,0,N⟩) 0 cap] (ρ.t 72) (0,0)))(D:Lib.BuilderAtF (ρ.t 72) (ρ.t 5) B b p [] w) :
 Calls P (ρ.f 169) #[.pointer (O ⟨b,0,N⟩)] w λe w'=>e=.returned (.string ⟨#[]⟩)/\Lib.BuilderAtF (ρ.t 72) (ρ.t 5) B b p [] w'/\Below B w w'/\Go.Am.Kept b w w':=by
 have E:=ZkA b w;have G:=Any.unsafeString_none L X
 have T:w.drew.cell? ⟨b,1,N⟩=O (.slice (O ⟨g,0,N⟩) 0 cap):=by
  have:w.drew.heap[b]?=O (.cells #[p,.slice (O ⟨g,0,N⟩) 0 cap] (ρ.t 72) (0,0)):=j;rw[Lib.cell_of_heap this];rfl
 have F:(Builtin.unsafeSliceData_ #[(ρ.t 37)] (ρ.t 127) #[.slice (O ⟨g,0,N⟩) 0 cap]).run P w.drew=.ok (.pointer (O ⟨g,0,N⟩)) w.drew :=
  Lib.run_unsafeSliceData_row _ _ _ _ _ _ h
 clear h;have mixed:=L.mixed;have t72:=L.t72;have a72:=L.a72;have z72:=L.z72;have v72:=L.v72;have R:=run_underlying L.t72;have t70:=L.t70;have a70:=L.a70;have z70:=L.z70;have v70:=L.v70;have Q:=run_underlying L.t70;have t37:=L.t37;have a37:=L.a37;have z37:=L.z37;have v37:=L.v37;have K:=run_underlying L.t37;have y:=L.t127;have u:=L.a127;have C:=L.z127;have A:=L.v127;have z:=run_underlying L.t127;have t3:=L.t3;have a3:=L.a3;have z3:=L.z3;have v3:=L.v3;have u3:=run_underlying L.t3;have t9:=L.t9;have a9:=L.a9;have z9:=L.z9;have v9:=L.v9;have u9:=run_underlying L.t9;have t5:=X.t5;have a5:=X.a5;have z5:=X.z5;have v5:=X.v5;have u5:=run_underlying X.t5
 go_enter L.f169,Body.n169_ntmps ρ
 go_wp2
 go_region_o
 all_goals (go_wp2;go_ret;exact⟨rfl,D.drew,Below.drew (Below.refl B w),E⟩)
theorem ZsK (L:Lays.n169 P ρ)(X:Builder.Extra P ρ)(B b:Nat)(l:dr)(w:World)(h:Lib.IsBuilderF (ρ.t 72) (ρ.t 5) B b (Lib.byteCells l) w)(A:B<=w.heap.size) :
 Calls P (ρ.f 169) #[.pointer (O ⟨b,0,N⟩)] w λe w'=>e=.returned (.string ⟨l.toArray⟩)/\Lib.IsBuilderF (ρ.t 72) (ρ.t 5) B b (Lib.byteCells l) w'/\Below B w w'/\Go.Am.Kept b w w':=by
 cases l with
 |cons x r=>exact Zqo L X B b (x::r) w h dh
 |nil =>
  obtain⟨p,G,C⟩:∃ p,(p=.pointer N\/p=.pointer (O ⟨b,0,N⟩))/\Lib.BuilderAtF (ρ.t 72) (ρ.t 5) B b p [] w:=by
   rcases h with h|h
   ·exact⟨_,.inl rfl,h⟩
   ·exact⟨_,.inr rfl,h⟩
  have fin:∀ (e:Ending) (w':World),(e=.returned (.string ⟨#[]⟩)/\Lib.BuilderAtF (ρ.t 72) (ρ.t 5) B b p [] w'/\Below B w w'/\Go.Am.Kept b w w')->e=.returned (.string ⟨#[]⟩)/\Lib.IsBuilderF (ρ.t 72) (ρ.t 5) B b [] w'/\Below B w w'/\Go.Am.Kept b w w':=by
   rintro e w' ⟨he,hk,hb,ho⟩
   rcases G with rfl|rfl
   ·exact⟨he,.inl hk,hb,ho⟩
   ·exact⟨he,.inr hk,hb,ho⟩
  have j:=C;obtain⟨K,v,u,z,F⟩:=C;rcases z.2 with ⟨rfl,_⟩|⟨g,cap,cur,fz,rfl,D,E,_,_,_,_,_⟩
  ·exact (Zqp L X B b p w u j).mono fin
  ·by_cases y:cap=0
   ·subst y;exact (Zqq L X B b g p cur w A u fz E j).mono fin
   ·exact (Zqr L X B b g cap p w y u j).mono fin
end Go.Proofs
namespace Go.Am
open RowKit
section
variable {S:Snap}{W0:World}{H:Hp}
theorem Inv.bldStep (j:Inv W0 S H){o b:Nat}{T u:TypeId}{l l':dr}(ho:H[o]?=O (.bld T u l))(hb:S.phi o=O b){w':World}(D:Lib.IsBuilderF T u W0.heap.size b (Lib.byteCells l') w')
 (C:Below W0.heap.size S.w w') (hk:Kept b S.w w'):∃ S',S'.w=w'/\Ext S S'/\Inv W0 S' (H.set o (.bld T u l')):=by
 obtain⟨b',h1,h2,h3,h4,h5⟩:=j.objs o _ ho;rw[hb]at h1;injection h1 with h1;subst h1;have ad:o<Z H:=Zq ho
 obtain⟨v,hv⟩:∃ v,S.w.cell? ⟨b,1,N⟩=O v:=by
  rcases h2 with ⟨_,v,h,_⟩|⟨_,v,h,_⟩ <;> exact⟨v,by rw[Lib.cell_of_heap h];rfl⟩
 obtain⟨v',ac⟩:∃ v,w'.cell? ⟨b,1,N⟩=O v:=by
  rcases D with ⟨_,v,h,_⟩|⟨_,v,h,_⟩ <;> exact⟨v,by rw[Lib.cell_of_heap h];rfl⟩
 have ax:W0.heap.size<=b:=D.elim (λh=>h.1) λh=>h.1
 have ab:∀ k,k<S.w.heap.size->k≠b->(∀ e hw sz,S.tk o≠O (e,k,hw,sz))->w'.heap[k]?=S.w.heap[k]?:=λk aj ak al=>hk.old k aj ak λx X K=>by
  obtain⟨⟨n,hw,sz,q⟩,_⟩:=h5 x k X K;exact al _ _ _ q
 have aa:∀ k i,S.pub k i->w'.heap[k]?=S.w.heap[k]?:=λk i L=>hk.old k (j.puball k i L) (λe=>h4 i (e ▸ L)) λx X K=>(h5 x k X K).2 i L
 have F:∀ n:Nat,(H.set o (.bld T u l'))[n]?≠O AObj.dead->H[n]?≠O AObj.dead:=λn h=>by
  by_cases e:o=n
  ·subst e;rw[ho];simp
  ·rwa [zG e]at h
 -- the token of the row
 obtain⟨A,Q,ae,ao,ap⟩:∃ A:Nat->Option (Nat×Nat×Nat×Nat),(∀ t,t≠o->A t=S.tk t) /\
  (A o=S.tk o\/∃ n g,A o=O (n,g,0,0)/\S.w.heap.size<=g/\g<w'.heap.size/\∀ e b hw sz,S.tk o=O (e,b,hw,sz)->e<n) /\
  (∀ g,v'.ownBlock=O g->∃ n hw sz,A o=O (n,g,hw,sz))/\∀ g,v'.ownBlock=O g->∀ i,¬ S.pub g i:=by
  cases K:v'.ownBlock with
  |none=>exact⟨S.tk,λ_ _=>rfl,.inl rfl,λg h=>(by cases h),λg h=>(by cases h)⟩
  |some g =>
   rcases hk.row v v' g hv ac K with h|h
   ·obtain⟨⟨n,hw,sz,q⟩,q2⟩:=h5 v g hv h;exact⟨S.tk,λ_ _=>rfl,.inl rfl,λg' e=>by injection e with e;subst e;exact⟨n,hw,sz,q⟩,λg' e=>by injection e with e;subst e;exact q2⟩
   ·refine⟨λt=>if t=o then O ((match S.tk o with|some (n,_)=>n+1|none=>0),g,0,0) else S.tk t,λt ht=>if_neg ht,.inr ⟨_,g,if_pos rfl,h,D.own_lt ac K,λe b hw sz q=>by rw[q];exact Nat.lt_succ_self _⟩,
     λg' e=>by injection e with e;subst e;exact⟨_,0,0,if_pos rfl⟩,λg' e i L=>by injection e with e;subst e;have:=j.puball _ _ L;omega⟩
 have aq:∀ t e b hw sz,S.tk t=O (e,b,hw,sz)->∃ e' b' af ag,A t=O (e',b',af,ag)/\e<=e'/\(e'=e->b'=b/\af=hw/\ag=sz):=λt e B hw sz h=>by
  by_cases y:t=o
  ·subst y;rcases ae with h'|⟨n,g,h1,h2,h3,h4⟩
   ·exact⟨e,B,hw,sz,h'.trans h,zF _,λ_=>⟨rfl,rfl,rfl⟩⟩
   ·have:=h4 _ _ _ _ h;exact⟨n,g,0,0,h1,b5,λh=>b5⟩
  ·exact⟨e,B,hw,sz,(Q t y).trans h,zF _,λ_=>⟨rfl,rfl,rfl⟩⟩
 let S':Snap:={ w:=w',phi:=S.phi,pub:=S.pub,tk:=A,lim:=S.lim }
 have X:Ext S S':=⟨⟨λ_ _ h=>h,λk i h=>⟨h,by show w'.cell? _=_;unfold World.cell?;rw[aa k i h]⟩,aq⟩,rfl,λ_ _ h _=>h⟩
 have G:∀ t e B hw sz,A t=O (e,B,hw,sz)->(∃ e0 hw0 au,S.tk t=O (e0,B,hw0,au))\/(t=o/\S.w.heap.size<=B/\B<w'.heap.size):=λt e B hw sz h=>by
  by_cases y:t=o
  ·subst y;rcases ae with h'|⟨n,g,q1,q2,q3,q4⟩
   ·exact .inl ⟨e,hw,sz,h'.symm.trans h⟩
   ·rw[q1]at h;simp only[zA,zC]at h;exact .inr ⟨rfl,b5,b5⟩
  ·exact .inl ⟨e,hw,sz,(Q t y).symm.trans h⟩
 refine⟨S',rfl,X,⟨j.below.trans C,λn z h=>?_,λn hn=>?_,λo1 o2 B g1 g2 ah ai=>j.inj o1 o2 B g1 g2 (F _ ah) (F _ ai),λt t' e B hw sz e2 ay az g1 g2=>?_,λt e B hw sz x h=>?_,λk i h=>?_,λx B h=>?_,λt e B hw sz h=>?_,j.lim⟩⟩
 ·by_cases e:o=n
  ·subst e;simp[ad]at h;subst h;refine⟨b,hb,D,h3,h4,λx g X K=>?_⟩
   have:x=v':=by
    have R:w'.cell? ⟨b,1,N⟩=O x:=X;rw[ac]at R;injection R with R;exact R.symm
   subst this;exact⟨ao g K,ap g K⟩
  ·rw[zG e]at h
   cases z with
   |dead=>trivial
   |_ =>
    refine (j.objs n _ h).frame X (λk E am=>⟨ab k am ?_ ?_,λi L=>L⟩) (Q n (Ne.symm e)) rfl
    ·rintro rfl
     rcases E with E|⟨e',hw,sz,ht⟩
     ·exact e (j.inj o n k hb E (by rw[ho];simp) (by rw[h];simp))
     ·exact j.apart n e' k hw sz o ht hb
    ·intro e1 ar aw y;rcases E with E|⟨e',hw,sz,ht⟩
     ·exact j.apart o e1 k ar aw n y E
     ·exact e (j.tinj _ _ _ _ _ _ _ _ _ y ht)
 ·have an:Z H<=n:=by simpa using hn
  obtain⟨p,q⟩:=j.past n an;exact⟨p,(Q n b5).trans q⟩
 ·rcases G _ _ _ _ _ g1 with ⟨_,_,_,q1⟩|⟨r1,r2,_⟩
  ·rcases G _ _ _ _ _ g2 with ⟨_,_,_,q2⟩|⟨r1,r2,_⟩
   ·exact j.tinj _ _ _ _ _ _ _ _ _ q1 q2
   ·have:=j.tdom _ _ _ _ _ q1;omega
  ·rcases G _ _ _ _ _ g2 with ⟨_,_,_,q2⟩|⟨r3,r4,_⟩
   ·have:=j.tdom _ _ _ _ _ q2;omega
   ·rw[r1,r3]
 ·rcases G _ _ _ _ _ h with ⟨_,_,_,q1⟩|⟨r1,r2,_⟩
  ·exact j.apart _ _ _ _ _ x q1
  ·intro L;have:=j.dom x B L;omega
 ·exact zE (j.puball k i h) C.size
 ·exact zE (j.dom x B h) C.size
 ·rcases G _ _ _ _ _ h with ⟨_,_,_,q1⟩|⟨r1,r2,r3⟩
  ·exact zE (j.tdom _ _ _ _ _ q1) C.size
  ·exact r3
def Zg5:Nat:=140737488355328
def ZfM (T u:TypeId)(f:dr->Option (AV×dr)):AObj->Option (AV×AObj)
 |.bld T' u' l=>if T'=T/\u'=u then (match f l with|some (v,l')=>O (v,.bld T u l')|none=>N) else N
 |_=>N
def HM (T u:TypeId)(f:du->Option (dr->Option (AV×dr)))(args:du)(H:Hp):Option (AV×Hp) :=
 match args with
 |.ptr o 0::rest=>match f rest with
  |some g=>match H[o]? with
   |some z=>match ZfM T u g z with
    |some (v,y)=>O (v,H.set o y)
    |none=>N
   |none=>N
  |none=>N
 |_=>N
theorem ZsM (T u:TypeId)(f:du->Option (dr->Option (AV×dr)))(args:du):Xr (HM T u f args):=by
 unfold HM;split
 ·rename_i o rest
  cases f rest with
  |none=>exact ZF
  |some g =>
   refine XB (Bj o (ZfM T u g) rfl (λz v y h=>?_)) λH=>?_
   ·unfold ZfM at h;split at h
    ·split at h
     ·split at h
      ·injection h with h;injection h with A j;subst j;simp
      ·cases h
     ·cases h
    ·cases h
   ·dsimp only;rcases H[o]? with _|z
    ·rfl
    ·dsimp only;cases ZfM T u g z <;> rfl
 ·exact ZF
def ZjI (T u:TypeId)(f:du->Option (dr->Option (AV×dr))):EffFn:=⟨HM T u f,ZsM T u f⟩
def ZhG:du->Option (dr->Option (AV×dr))
 |[.int .u8 c]=>if 0<=c/\c<256 then O λl=>if Z l+1<=Zg5 then O (.nili,l++[zL c.toNat]) else N else N
 |_=>N
def ZlZ:du->Option (dr->Option (AV×dr))
 |[.str s]=>O λl=>if Z l+Z s<=Zg5 then O (.tuple [.int .i64 (Z s),.nili],l++s) else N
 |_=>N
def Zk7:du->Option (dr->Option (AV×dr))
 |[]=>O λl=>O (.str l,l)
 |_=>N
def ZxY (T u:TypeId):EffFn:=ZjI T u ZhG
def ZxZ (T u:TypeId):EffFn:=ZjI T u ZlZ
def Zyr (T u:TypeId):EffFn:=ZjI T u Zk7
theorem Zou {T u:TypeId}{f:du->Option (dr->Option (AV×dr))}{args:du}{H':Hp}{v:AV}(h:HM T u f args H=O (v,H')) :
 ∃ o rest g l A,args=.ptr o 0::rest/\f rest=O g/\H[o]?=O (.bld T u l)/\g l=O (v,A)/\H'=H.set o (.bld T u A):=by
 unfold HM at h;split at h
 ·rename_i o rest;split at h
  ·rename_i g C;split at h
   ·rename_i z E;split at h
    ·rename_i K y j;simp only[zA,zC]at h;obtain⟨rfl,rfl⟩:=h;unfold ZfM at j;split at j
     ·rename_i F G l;split at j
      ·rename_i B;obtain⟨rfl,rfl⟩:=B;split at j
       ·rename_i L A D;simp only[zA,zC]at j;obtain⟨rfl,rfl⟩:=j;exact⟨o,rest,g,l,A,rfl,C,E,D,rfl⟩
       ·cases j
      ·cases j
     ·cases j
    ·cases h
   ·cases h
  ·cases h
 ·cases h
end
def gD (P:Program)(T u:TypeId)(id:FuncId)(f:du->Option (dr->Option (AV×dr))):Prop :=
 ∀ (B b:Nat) (rest:du) (h:Array Value) (g:dr->Option (AV×dr)) (l l':dr) (v:AV) (w:World),f rest=O g->g l=O (v,l')->h.size=Z rest ->
  (∀ (S:Snap),S.w=w->(∀ (i:Nat) (a:AV) (x:Value),rest[i]?=O a->h[i]?=O x->VRel S a x)->Lib.IsBuilderF T u B b (Lib.byteCells l) w->B<=w.heap.size ->
   Calls P id (#[.pointer (O ⟨b,0,N⟩)]++h) w λe w'=>∃ v',e=.returned v'/\(∀ j:Snap,VRel j v v')/\Lib.IsBuilderF T u B b (Lib.byteCells l') w'/\Below B w w'/\Kept b w w')
theorem ZjJ {C:Cfg}{T u:TypeId}{id:FuncId}{f:du->Option (dr->Option (AV×dr))}(h:gD C.P T u id f):Bw C id (ZjI T u f):=by
 intro W0 S H H' args args' v B hW D F X;obtain⟨o,rest,g,l,l',rfl,L,K,Q,rfl⟩:=Zou X;obtain⟨b',y,A,h3,h4,h5⟩:=B.objs o _ K;obtain⟨z⟩:=args'
 match z,D with
 |p::z,D =>
  have R:=F 0 _ p rfl rfl;cases R with|ptr _ _ b hb =>
  rw[hb]at y;injection y with y;subst y;have G:=h W0.heap.size b rest ⟨z⟩ g l l' v S.w L Q (by simpa using D) S rfl (λi a x y A=>F (i+1) a x (by simpa using y) (by simpa using A)) A B.size;have j:(#[.pointer (O ⟨b,0,N⟩)]++⟨z⟩:Array Value)=⟨.pointer (O ⟨b,0,N⟩)::z⟩:=dh
  rw[j]at G;refine G.mono ?_
  rintro e w' ⟨v',rfl,q1,q2,q3,q4⟩
  obtain⟨E,r1,r2,r3⟩:=B.bldStep K hb q2 q3 q4;exact⟨v',E,rfl,r1,r2,r3,q1 E⟩
end Go.Am
namespace Go.Am
open Go.Shelf Go.RowKit Go.Proofs
variable {P:Program}{ρ:Ren}
theorem Zow (L:Lays.n167 P ρ)(X:Builder.Extra P ρ):gD P (ρ.t 72) (ρ.t 5) (ρ.f 167) ZhG:=by
 intro B b rest j g l Q v w h u E S hw D C z;unfold ZhG at h;split at h
 ·rename_i c;split at h
  ·rename_i K;injection h with h;subst h;simp only at u;split at u
   ·rename_i y;simp only[zA,zC]at u;obtain⟨rfl,rfl⟩:=u;obtain⟨A⟩:=j
    match A,E with
    |[x],_ =>
     have F:=D 0 _ x rfl rfl;cases F;have:=Zys L X B b (Lib.byteCells l) c w C (by rw[Lib.byteCells_length];exact y) z;refine this.mono ?_
     rintro e w' ⟨rfl,q1,q2,q3⟩
     refine⟨_,rfl,λG=>.nili,.inr ?_,q2,q3⟩;rw[Lib.byteCells_append]
     have:Lib.byteCells [zL c.toNat]=[Value.int .u8 c]:=by
      simp only[Lib.byteCells,zH,zI];congr 2;simp;omega
     rw[this];exact q1
   ·cases u
  ·cases h
 ·cases h
theorem Zpm (L:Lays.n166 P ρ)(X:Builder.Extra P ρ):gD P (ρ.t 72) (ρ.t 5) (ρ.f 166) ZlZ:=by
 intro B b rest h g l R v w j u G S hw F E C;unfold ZlZ at j;split at j
 ·rename_i s;injection j with j;subst j;simp only at u;split at u
  ·rename_i y;simp only[zA,zC]at u;obtain⟨rfl,rfl⟩:=u;obtain⟨D⟩:=h
   match D,G with
   |[x],_ =>
    have K:=F 0 _ x rfl rfl;cases K with|str _ sb hsb =>
    have z:sb.size=Z s:=by rw[<-hsb,Array.length_toList];rfl
    have:=Zyt L X B b (Lib.byteCells l) sb w E (by rw[Lib.byteCells_length,z];exact y) C;refine this.mono ?_
    rintro e w' ⟨rfl,q1,q2,q3⟩
    refine⟨_,rfl,λQ=>.tuple _ _ rfl λi c v hi A=>?_,.inr ?_,q2,q3⟩
    ·match i with
     |0=>simp at hi A;subst hi A;rw[z];exact .int _ _
     |1=>simp at hi A;subst hi A;exact .nili
     |i+2=>simp at hi
    ·rw[Lib.byteCells_append,<-hsb,<-Lib.strCells_eq];exact q1
  ·cases u
 ·cases j
theorem ZlP (L:Lays.n169 P ρ)(X:Builder.Extra P ρ):gD P (ρ.t 72) (ρ.t 5) (ρ.f 169) Zk7:=by
 intro B b rest h g l F v w j y C S hw E A u;unfold Zk7 at j;split at j
 ·injection j with j;subst j;simp only[zA,zC]at y;obtain⟨rfl,rfl⟩:=y;obtain⟨z⟩:=h
  match z,C with
  |[],_ =>
   refine (ZsK L X B b l w A u).mono ?_
   rintro e w' ⟨rfl,q1,q2,q3⟩
   exact⟨_,rfl,λD=>.str _ _ dh,q1,q2,q3⟩
 ·cases j
end Go.Am
