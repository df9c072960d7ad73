/- THE ABSTRACT MACHINE -/
import Derived.Shelf.Strings.BuilderK
import Derived.Test.YtnaneekpogohaaaGreatDoorHmVx
open List renaming getElem?_set_ne->zG,map_cons->zH,map_nil->zI,map_toArray->zK
open Nat renaming lt_of_lt_of_le->zE,le_refl->zF,lt_or_ge->zJ
open Array renaming getElem?_modify->zB,getElem?_eq_none->zD
open UInt8 renaming ofNat->zL
open Option.some renaming injEq->zA
open Prod.mk renaming injEq->zC
namespace Go.Am
open Go.RowKit
section
variable {P:Program}(w:World)
def Zhp (w:World)(v v':Value):Prop:=v'.ownBlock=v.ownBlock\/∀ g,v'.ownBlock=some g->w.heap.size<=g
theorem Zjq (base:Nat)(t ty e:TypeId)(i:TypeInfo)(z:Value)(size bytes:Nat)(Q:P.underlying t=some (.slice e))(hi:P.info? e=some i)(hz:i.zero=some z)
 (B:i.size=size) (I:i.bytes=bytes) (N:z.cells.size=size) (M:0<size)
 (v:Value) (n:Nat) (xs:List Value) (A:w.ownsRowF base e size v n xs)
 (a:Addr) (m c:Nat) (news:List Value) (L:news.length=m*size) (y:∀ j u,news[j]?=some u->w.cell? (a.add j)=some u) (U:∀ u∈news,u.oneCell'=true)
 (E:n+m<=maxLen) (h:(n+m)*bytes<=140737488355328) (F:base<=w.heap.size) :
 ∃ v' w',(Builtin.append_ #[t,t] ty #[v,.slice (some a) m c]).run P w=.ok v' w'/\w'.ownsRowF base e size v' (n+m) (xs++news)/\w.grownBy w' v.ownBlock/\Zhp w v v':=by
 obtain⟨v',w',T,r2,r3,_⟩:=run_append_ownF (P:=P) w base t ty e i z size bytes Q hi hz B I N M v n xs A a m c news L y U E h F;refine⟨v',w',T,r2,r3,?_⟩;rcases A.2 with ⟨rfl,rfl⟩|⟨g,cap,cur,fz,rfl,aa,X,W,ac,ab,V,Z⟩
 ·right;obtain⟨v2,w2,R,q2,_⟩:=run_append_ownF (P:=P) w w.heap.size t ty e i z size bytes Q hi hz B I N M (.slice none 0 0) 0 xs ⟨A.1,.inl ⟨rfl,rfl⟩⟩ a m c news L y U E h (zF _);rw[T]at R;injection R with R q3;subst R q3;exact fun g X=>(q2.lt g X).1
 ·subst B;subst I
  by_cases C:n+m<=cap
  ·have K:n*i.size+news.length<=cur.size:=by rw[L,V,<-Nat.add_mul];exact Nat.mul_le_mul_right _ C
   have D:=run_append_roomF (P:=P) w t ty e i Q hi g n cap cur fz X W a m c news L y U C K;rw[T]at D;injection D with D;subst D;exact .inl rfl
  ·have J:∀ j u,xs[j]?=some u->w.cell? ((⟨g,0,none⟩:Addr).add j)=some u:=A.cells (g:=g) rfl;have O:n+m<=9223372036854775807:=by simp only[maxLen]at E;omega
   have D:=run_append_grow (P:=P) w t ty e i z Q hi hz ⟨g,0,none⟩ n cap xs A.1 J a m c news L y (by omega) (by omega) (growslice_fits (by omega) h);rw[T]at D;injection D with D;subst D;exact .inr fun g' Y=>by simp[Value.ownBlock]at Y;omega
theorem ZhN (base:Nat)(t u ty e:TypeId)(i:TypeInfo)(J:P.underlying t=some (.slice e))(K:P.underlying u=some .string)(hi:P.info? e=some i)(V:i.zero=some (.int .u8 0))
 (h:i.size=1) (D:i.bytes=1)
 (v:Value) (n:Nat) (xs:List Value) (y:w.ownsRowF base e 1 v n xs) (s:ByteArray)
 (B:n+s.size<=maxLen) (z:n+s.size<=140737488355328) (C:base<=w.heap.size) :
 ∃ v' w',(Builtin.append_ #[t,u] ty #[v,.string s]).run P w=.ok v' w'/\w'.ownsRowF base e 1 v' (n+s.size) (xs++Lib.strCells s)/\w.grownBy w' v.ownBlock/\Zhp w v v':=by
 obtain⟨v',w',M,r2,r3,_⟩:=Lib.run_append_own_stringF (P:=P) w base t u ty e i J K hi V h D v n xs y s B z C;refine⟨v',w',M,r2,r3,?_⟩;rcases y.2 with ⟨rfl,rfl⟩|⟨g,cap,cur,fz,rfl,X,Q,O,Z,Y,N,T⟩
 ·right;obtain⟨v2,w2,L,q2,_⟩:=Lib.run_append_own_stringF (P:=P) w w.heap.size t u ty e i J K hi V h D (.slice none 0 0) 0 xs ⟨y.1,.inl ⟨rfl,rfl⟩⟩ s B z (zF _);rw[M]at L;injection L with L q3;subst L q3;exact fun g Q=>(q2.lt g Q).1
 ·have U:xs.length=n:=by simpa using y.1
  by_cases F:n+s.size<=cap
  ·have W:cur.size=cap:=by simpa using N
   have A:=Lib.run_append_room_stringF (P:=P) w t u ty e i J K hi h g n cap cur fz Q (by simpa using O) s F (by omega);rw[M]at A;injection A with A;subst A;exact .inl rfl
  ·have E:∀ j u,xs[j]?=some u->w.cell? ((⟨g,0,none⟩:Addr).add j)=some u:=y.cells (g:=g) rfl;have I:n+s.size<=9223372036854775807:=by simp only[maxLen]at B;omega
   have A:=Lib.run_append_grow_string (P:=P) w t u ty e i (.int .u8 0) J K hi V ⟨g,0,none⟩ n cap xs (by rw[h];simpa using U) E s (by omega) (by omega) (by rw[D];exact growslice_fits (by omega) (by omega));rw[M]at A;injection A with A;subst A;exact .inr fun g' R=>by simp[Value.ownBlock]at R;omega
theorem wp_append_slice_x {ops:Array Oper}{rest:List Oper}{o:Oper}{a:Act}{Q:Exit->Act->World->Prop}(I:o.guard=none)(s x:Operand)(t:TypeId)
 (V:o.op=.call { callee:=.builtin .append,args:=#[s,x],argTypes:=#[t,t] })
 (base:Nat) (e:TypeId) (i:TypeInfo) (z:Value) (size bytes:Nat) (Y:P.underlying t=some (.slice e)) (hi:P.info? e=some i) (hz:i.zero=some z)
 (B:i.size=size) (F:i.bytes=bytes) (L:z.cells.size=size) (J:0<size)
 (v:Value) (n:Nat) (xs:List Value) (X:a.eval s=v) (C:w.ownsRowF base e size v n xs)
 (D:Addr) (m c:Nat) (news:List Value) (Z:a.eval x=.slice (some D) m c) (U:news.length=m*size) (A:∀ j u,news[j]?=some u->w.cell? (D.add j)=some u) (M:∀ u∈news,u.oneCell'=true)
 (E:n+m<=maxLen) (g:(n+m)*bytes<=140737488355328) (y:base<=w.heap.size)
 (h:∀ v' w',w'.ownsRowF base e size v' (n+m) (xs++news)->w.grownBy w' v.ownBlock->Zhp w v v'->wpList P ops Q rest (a.put o.dst v') w'):wpList P ops Q (o::rest) a w:=by
 refine wpList_plain I fun K T=>?_;obtain⟨v',w',W,N,O,R⟩:=Zjq (P:=P) w base t o.type e i z size bytes Y hi hz B F L J v n xs C D m c news U A M E g y;unfold Oper.wp execOp;simp only[V,resolve,invoke,builtin,Sem.run_bind,Sem.run_pure,Result.andThen_ok,zK,zH,zI,X,Z,W];exact T _ _ (h v' w' N O R)
theorem wp_append_string_x {ops:Array Oper}{rest:List Oper}{o:Oper}{a:Act}{Q:Exit->Act->World->Prop}(C:o.guard=none)(sl x:Operand)(t u:TypeId)
 (J:o.op=.call { callee:=.builtin .append,args:=#[sl,x],argTypes:=#[t,u] })
 (base:Nat) (e:TypeId) (i:TypeInfo) (N:P.underlying t=some (.slice e)) (O:P.underlying u=some .string) (hi:P.info? e=some i) (T:i.zero=some (.int .u8 0))
 (y:i.size=1) (B:i.bytes=1)
 (v:Value) (n:Nat) (xs:List Value) (M:a.eval sl=v) (z:w.ownsRowF base e 1 v n xs) (s:ByteArray) (R:a.eval x=.string s)
 (A:n+s.size<=maxLen) (g:n+s.size<=140737488355328) (j:base<=w.heap.size)
 (h:∀ v' w',w'.ownsRowF base e 1 v' (n+s.size) (xs++Lib.strCells s)->w.grownBy w' v.ownBlock->Zhp w v v'->wpList P ops Q rest (a.put o.dst v') w'):wpList P ops Q (o::rest) a w:=by
 refine wpList_plain C fun K I=>?_;obtain⟨v',w',L,D,E,F⟩:=ZhN (P:=P) w base t u o.type e i N O hi T y B v n xs z s A g j;unfold Oper.wp execOp;simp only[J,resolve,invoke,builtin,Sem.run_bind,Sem.run_pure,Result.andThen_ok,zK,zH,zI,M,R,L];exact I _ _ (h v' w' D E F)
end
structure Kept (b:Nat)(w w':World):Prop where
 old:∀ k,k<w.heap.size->k≠b->(∀ v,w.cell? ⟨b,1,none⟩=some v->v.ownBlock≠some k)->w'.heap[k]?=w.heap[k]?
 row:∀ v v' g,w.cell? ⟨b,1,none⟩=some v->w'.cell? ⟨b,1,none⟩=some v'->v'.ownBlock=some g->v.ownBlock=some g\/w.heap.size<=g
structure Chk (b:Nat)(w w':World):Prop where
 size:w'.heap.size=w.heap.size
 old:∀ k,k≠b->w'.heap[k]?=w.heap[k]?
 row:w'.cell? ⟨b,1,none⟩=w.cell? ⟨b,1,none⟩
end Go.Am
namespace Go.Proofs
open Go.Shelf Go.RowKit
variable {P:Program}{ρ:Ren}
theorem ZlT (L:Lays.n240 P ρ)(X:Builder.X72 P ρ)(B b:Nat)(g:List Value)(w:World)(h:Lib.IsBuilderF (ρ.t 72) (ρ.t 5) B b g w) :
 Calls P (ρ.f 240) #[.pointer (some ⟨b,0,none⟩)] w fun e w'=>e=.returned (.tuple #[])/\Lib.BuilderAtF (ρ.t 72) (ρ.t 5) B b (.pointer (some ⟨b,0,none⟩)) g w'/\Below B w w'/\Go.Am.Chk b w w':=by
 rcases h with h|h
 ·refine (Any.Builder_copyCheck_fresh L X b w h.cell0 h.shape h.frozen0).mono ?_
  rintro e w' ⟨rfl,rfl⟩
  refine⟨rfl,h.used _,(Below.refl B w).setCell (p:=⟨b,0,none⟩) h.1 _,⟨by simp[World.setCell],fun k hk=>Below.heap_setCell _ _ _ _ hk,?_⟩⟩;obtain⟨_,v,j,_⟩:=h;simp[World.cell?,World.setCell,zB,j]
 ·refine (Any.Builder_copyCheck_used L X b w h.cell0).mono ?_
  rintro e w' ⟨rfl,rfl⟩
  exact⟨rfl,h,Below.refl B _,⟨rfl,fun _ _=>rfl,rfl⟩⟩
set_option maxHeartbeats 2000000 in
set_option maxRecDepth 100000 in
theorem Zxn (L:Lays.n167 P ρ)(X:Builder.Extra P ρ)(B b:Nat)(E:List Value)(c:Int)(w:World)(h:Lib.IsBuilderF (ρ.t 72) (ρ.t 5) B b E w)(ac:E.length+1<=140737488355328)(ae:B<=w.heap.size) :
 Calls P (ρ.f 167) #[.pointer (some ⟨b,0,none⟩),.int .u8 c] w fun e w'=>e=.returned .nilIface/\Lib.BuilderAtF (ρ.t 72) (ρ.t 5) B b (.pointer (some ⟨b,0,none⟩)) (E++[.int .u8 c]) w'/\Below B w w'/\Go.Am.Kept b w w':=by
 obtain⟨i0,hi,Mi,TG,aa⟩:=info_parts X.infoByte;have mixed:=L.mixed;have t72:=L.t72;have a72:=L.a72;have z72:=L.z72;have v72:=L.v72;have ai:=run_underlying L.t72;have t70:=L.t70;have a70:=L.a70;have z70:=L.z70;have v70:=L.v70;have ah:=run_underlying L.t70;have t5:=L.t5;have a5:=L.a5;have z5:=L.z5;have v5:=L.v5;have u5:=run_underlying L.t5;have t37:=L.t37;have a37:=L.a37;have z37:=L.z37;have v37:=L.v37;have ag:=run_underlying L.t37;have t9:=L.t9;have a9:=L.a9;have z9:=L.z9;have v9:=L.v9;have u9:=run_underlying L.t9;have t4:=L.t4;have a4:=L.a4;have z4:=L.z4;have v4:=L.v4;have u4:=run_underlying L.t4;have t164:=L.t164;have a164:=L.a164;have z164:=L.z164;have v164:=L.v164;have ad:=run_underlying L.t164;have ab:∀ args w,(callFunc (ρ.f 240) args).run P w=.ok (.enter (ρ.f 240) args) w:=enters_of L.f240 (by kernel_rfl) rfl
 go_enter L.f167,Body.n167_ntmps ρ
 go_wp2_with (go_at_fn (ρ.f 240);refine (ZlT { L with } X.toX72 B b E _ h).mono ?_)
 rintro e w1 ⟨rfl,h1,hb1,hC1⟩
 obtain⟨hB,v,C,D,Z⟩:=h1;have c0:w1.cell? ⟨b,0,none⟩=some (.pointer (some ⟨b,0,none⟩)):=by rw[Lib.cell_of_heap C];rfl
 have c1:w1.cell? ⟨b,1,none⟩=some v:=by rw[Lib.cell_of_heap C];rfl
 go_wp2_with (at_builtin;refine Go.Am.wp_append_slice_x _ rfl _ _ (ρ.t 37) rfl B (ρ.t 5) i0 (.int .u8 0) 1 1 L.t37 hi Mi TG aa rfl (by decide) _ _ _ rfl (D.alloc _) ⟨w1.heap.size,0,none⟩ 1 1 [.int .u8 c] rfl rfl ?c1 ?c2 ?c3 ?c4 ?c5 ?_)
 case c1 =>
  intro j u O
  match j,O with
  |0,O=>simp at O;subst O;simp[Addr.add]
 case c2=>intro u F;simp at F;subst F;rfl
 case c3=>unfold maxLen;omega
 case c4=>omega
 case c5=>have:=hb1.size;simp;omega
 intro v' Q A y K
 have W:b<w1.heap.size:=by
  rcases zJ b w1.heap.size with R|R
  ·exact R
  ·simp[zD R]at C
 have z:Q.heap[b]?=some (.cells #[.pointer (some ⟨b,0,none⟩),v] (ρ.t 72) (0,0)):=by
  rw[y.block b (by simp;omega) (fun e=>Z e.symm),Lib.alloc_old w1 _ b W];exact C
 have d0:Q.cell? ⟨b,0,none⟩=some (.pointer (some ⟨b,0,none⟩)):=by rw[Lib.cell_of_heap z];rfl
 have d1:Q.cell? ⟨b,1,none⟩=some v:=by rw[Lib.cell_of_heap z];rfl
 have f1:Q.frozen? ⟨b,1,none⟩=false:=Lib.frozen_of_heap z 1
 obtain⟨g,cap,rfl⟩:∃ g cap,v'=.slice (some ⟨g,0,none⟩) (E.length+1) cap:=by
  rcases A.2 with ⟨_,h0⟩|⟨g,cap,cur,fz,hv,_⟩
  ·omega
  ·exact⟨g,cap,hv⟩
 go_wp2
 go_ret
 have af:=hC1.size;have U:=hC1.old;have M:=hC1.row;refine⟨rfl,?_,?_,⟨fun k hk J V=>?_,fun u u' g' F N I=>?_⟩⟩
 ·exact Lib.BuilderAtF.put (T:=(ρ.t 72)) (e:=(ρ.t 5)) hB z (bs':=E++[.int .u8 c]) (by simpa using A) X.neB5
 ·exact ((hb1.alloc (by have:=hb1.size;omega) _).grown y (by have:=hb1.size;simp;omega) (fun k hk=>(D.lt k hk).1)).setCell (p:=⟨b,1,none⟩) hB _
 ·rw[Below.heap_setCell _ _ _ _ J,y.block k (by simp;omega) (fun e=>V v (M ▸ c1) e.symm),Lib.alloc_old w1 _ k (by omega),U k J]
 ·rw[M]at c1;rw[c1]at F;injection F with F;subst F
  have:u'=.slice (some ⟨g,0,none⟩) (E.length+1) cap:=by
   simp[World.cell?,World.setCell,zB,z]at N;exact N.symm
  subst this;rcases K with Y|Y
  ·exact .inl (Y ▸ I)
  ·right;have:=Y g' I;simp at this;omega
set_option maxHeartbeats 2000000 in
set_option maxRecDepth 100000 in
theorem Zxo (L:Lays.n166 P ρ)(X:Builder.Extra P ρ)(B b:Nat)(D:List Value)(s:ByteArray)(w:World)(h:Lib.IsBuilderF (ρ.t 72) (ρ.t 5) B b D w)(ac:D.length+s.size<=140737488355328)(ae:B<=w.heap.size) :
 Calls P (ρ.f 166) #[.pointer (some ⟨b,0,none⟩),.string s] w fun e w'=>e=.returned (.tuple #[.int .i64 s.size,.nilIface])/\Lib.BuilderAtF (ρ.t 72) (ρ.t 5) B b (.pointer (some ⟨b,0,none⟩)) (D++Lib.strCells s) w'/\Below B w w'/\Go.Am.Kept b w w':=by
 obtain⟨i0,hi,Mi,TG,aa⟩:=info_parts X.infoByte;have mixed:=L.mixed;have t72:=L.t72;have a72:=L.a72;have z72:=L.z72;have v72:=L.v72;have ai:=run_underlying L.t72;have t70:=L.t70;have a70:=L.a70;have z70:=L.z70;have v70:=L.v70;have ah:=run_underlying L.t70;have t37:=L.t37;have a37:=L.a37;have z37:=L.z37;have v37:=L.v37;have ag:=run_underlying L.t37;have t3:=L.t3;have a3:=L.a3;have z3:=L.z3;have v3:=L.v3;have u3:=run_underlying L.t3;have t9:=L.t9;have a9:=L.a9;have z9:=L.z9;have v9:=L.v9;have u9:=run_underlying L.t9;have t4:=L.t4;have a4:=L.a4;have z4:=L.z4;have v4:=L.v4;have u4:=run_underlying L.t4;have t164:=L.t164;have a164:=L.a164;have z164:=L.z164;have v164:=L.v164;have ad:=run_underlying L.t164;have t5:=X.t5;have a5:=X.a5;have z5:=X.z5;have v5:=X.v5;have u5:=run_underlying X.t5;have ab:∀ args w,(callFunc (ρ.f 240) args).run P w=.ok (.enter (ρ.f 240) args) w:=enters_of L.f240 (by kernel_rfl) rfl
 go_enter L.f166,Body.n166_ntmps ρ
 go_wp2_with (go_at_fn (ρ.f 240);refine (ZlT { L with } X.toX72 B b D _ h).mono ?_)
 rintro e w1 ⟨rfl,h1,hb1,hC1⟩
 obtain⟨hB,v,A,C,Z⟩:=h1;have c0:w1.cell? ⟨b,0,none⟩=some (.pointer (some ⟨b,0,none⟩)):=by rw[Lib.cell_of_heap A];rfl
 have Q:w1.cell? ⟨b,1,none⟩=some v:=by rw[Lib.cell_of_heap A];rfl
 go_wp2_with (at_builtin;refine Go.Am.wp_append_string_x _ rfl _ _ (ρ.t 37) (ρ.t 9) rfl B (ρ.t 5) i0 L.t37 L.t9 hi Mi TG aa _ _ _ rfl C s rfl ?c3 ?c4 ?c5 ?_)
 case c3=>unfold maxLen;omega
 case c4=>omega
 case c5=>have:=hb1.size;omega
 intro v' N z j I
 have W:b<w1.heap.size:=by
  rcases zJ b w1.heap.size with R|R
  ·exact R
  ·simp[zD R]at A
 have y:N.heap[b]?=some (.cells #[.pointer (some ⟨b,0,none⟩),v] (ρ.t 72) (0,0)):=by
  rw[j.block b W (fun e=>Z e.symm)];exact A
 have d0:N.cell? ⟨b,0,none⟩=some (.pointer (some ⟨b,0,none⟩)):=by rw[Lib.cell_of_heap y];rfl
 have d1:N.cell? ⟨b,1,none⟩=some v:=by rw[Lib.cell_of_heap y];rfl
 have f1:N.frozen? ⟨b,1,none⟩=false:=Lib.frozen_of_heap y 1
 obtain⟨O,n',cap,rfl⟩:∃ O n' cap,v'=.slice O n' cap:=by
  rcases z.2 with ⟨hv,_⟩|⟨g,cap,cur,fz,hv,_⟩
  ·exact⟨_,_,_,hv⟩
  ·exact⟨_,_,_,hv⟩
 go_wp2
 go_ret2
 have af:=hC1.size;have U:=hC1.old;have J:=hC1.row;refine⟨rfl,?_,?_,⟨fun k hk F V=>?_,fun u u' g' M K E=>?_⟩⟩
 ·exact Lib.BuilderAtF.put (T:=(ρ.t 72)) (e:=(ρ.t 5)) hB y (bs':=D++Lib.strCells s) (by simpa[Lib.strCells_length]using z) X.neB5
 ·exact (hb1.grown j (by have:=hb1.size;omega) (fun k hk=>(C.lt k hk).1)).setCell (p:=⟨b,1,none⟩) hB _
 ·rw[Below.heap_setCell _ _ _ _ F,j.block k (by omega) (fun e=>V v (J ▸ Q) e.symm),U k F]
 ·rw[J]at Q;rw[Q]at M;injection M with M;subst M
  have:u'=.slice O n' cap:=by
   simp[World.cell?,World.setCell,zB,y]at K;exact K.symm
  subst this;rcases I with Y|Y
  ·exact .inl (Y ▸ E)
  ·right;have:=Y g' E;omega
theorem ZqG (b:Nat)(w:World)(o:Obj)(j:b<w.heap.size):Go.Am.Kept b w (w.drew.alloc o):=by
 refine⟨fun k hk _ _=>Lib.alloc_old w.drew _ k hk,fun v v' g y h u=>.inl ?_⟩;have:(w.drew.alloc o).cell? ⟨b,1,none⟩=w.cell? ⟨b,1,none⟩:=by unfold World.cell?;rw[Lib.alloc_old w.drew _ b j];rfl
 rw[this,y]at h;injection h with h;subst h;exact u
theorem Zkp (b:Nat)(w:World):Go.Am.Kept b w w.drew :=
 ⟨fun k hk _ _=>rfl,fun v v' g u h j=>.inl (by
  have:w.drew.cell? ⟨b,1,none⟩=w.cell? ⟨b,1,none⟩:=rfl;rw[this,u]at h;injection h with h;subst h;exact j)⟩
theorem Zov {b g n:Nat}{w:World}{c:Nat}{m:Nat}(h:w.cell? ⟨b,1,none⟩=some (.slice (some ⟨g,0,none⟩) m c))(y:g≠b):Go.Am.Kept b w (w.drew.freeze ⟨g,0,none⟩ n):=by
 have u:∀ k,k≠g->(w.drew.freeze ⟨g,0,none⟩ n).heap[k]?=w.heap[k]?:=fun k hk=>by
  unfold World.freeze;split
  ·rfl
  ·simp only[zB];rw[if_neg (Ne.symm hk)];rfl
 refine⟨fun k hk B z=>u k fun e=>z _ h (by subst e;rfl),fun v v' D C j A=>.inl ?_⟩;have:(w.drew.freeze ⟨g,0,none⟩ n).cell? ⟨b,1,none⟩=w.cell? ⟨b,1,none⟩:=by unfold World.cell?;rw[u b (Ne.symm y)]
 rw[this,C]at j;injection j with j;subst j;exact A
set_option maxHeartbeats 1000000 in
set_option maxRecDepth 100000 in
theorem ZpT (L:Lays.n169 P ρ)(X:Builder.Extra P ρ)(B b:Nat)(l:List UInt8)(w:World)(h:Lib.IsBuilderF (ρ.t 72) (ρ.t 5) B b (Lib.byteCells l) w)(O:l≠[]) :
 Calls P (ρ.f 169) #[.pointer (some ⟨b,0,none⟩)] w fun e w'=>e=.returned (.string ⟨l.toArray⟩)/\Lib.IsBuilderF (ρ.t 72) (ρ.t 5) B b (Lib.byteCells l) w'/\Below B w w'/\Go.Am.Kept b w w':=by
 obtain⟨p,hp,C⟩:∃ p,(p=.pointer none\/p=.pointer (some ⟨b,0,none⟩))/\Lib.BuilderAtF (ρ.t 72) (ρ.t 5) B b p (Lib.byteCells l) w:=by
  rcases h with h|h
  ·exact⟨_,.inl rfl,h⟩
  ·exact⟨_,.inr rfl,h⟩
 obtain⟨W,v,z,u,A⟩:=C;have J:l.length≠0:=by simpa using O
 rw[Lib.byteCells_length]at u
 obtain⟨g,cap,cur,fz,rfl,E,hg,ac,ad,F,ab,K⟩:∃ g cap cur fz,v=.slice (some ⟨g,0,none⟩) l.length cap/\B<=g/\w.heap[g]?=some (.cells cur (ρ.t 5) fz)/\fz.2<=l.length*1/\l.length<=cap/\cap<=maxLen/\cur.size=cap*1/\cur.toList.take (l.length*1)=Lib.byteCells l:=by
  rcases u.2 with ⟨_,hz⟩|⟨g,cap,cur,fz,hv,r⟩
  ·exact absurd hz J
  ·exact⟨g,cap,cur,fz,hv,r⟩
 have N:w.drew.cell? ⟨b,1,none⟩=some (.slice (some ⟨g,0,none⟩) l.length cap):=by
  have:w.drew.heap[b]?=some (.cells #[p,.slice (some ⟨g,0,none⟩) l.length cap] (ρ.t 72) (0,0)):=z;rw[Lib.cell_of_heap this];rfl
 have Y:Go.Am.Kept b w (w.drew.freeze ⟨g,0,none⟩ l.length):=Zov (w:=w) (m:=l.length) (c:=cap) N (fun e=>A (by simp[Value.ownBlock,e]))
 have Z:(Builtin.unsafeSliceData_ #[(ρ.t 37)] (ρ.t 127) #[.slice (some ⟨g,0,none⟩) l.length cap]).run P w.drew=.ok (.pointer (some ⟨g,0,none⟩)) w.drew :=
  Lib.run_unsafeSliceData_row _ _ _ _ _ _ (by omega)
 have aa:(Builtin.unsafeString_ #[(ρ.t 127),(ρ.t 3)] (ρ.t 9) #[.pointer (some ⟨g,0,none⟩),.int .i64 l.length]).run P w.drew=.ok (.string ⟨l.toArray⟩) (w.drew.freeze ⟨g,0,none⟩ l.length):=by
  refine Lib.run_unsafeString_row w.drew (ρ.t 127) (ρ.t 3) (ρ.t 9) (ρ.t 5) L.t127 X.cellsByte g cur.size (by have I:w.drew.heap[g]?=some (.cells cur (ρ.t 5) fz):=hg;simp[World.shape?,I]) l O (by omega) (by unfold maxLen at F;omega) ?_;intro j x hx;have:=u.cells (g:=g) rfl j (.int .u8 x.toNat) (by simp[Lib.byteCells,hx]);exact this
 have y:Lib.IsBuilderF (ρ.t 72) (ρ.t 5) B b (Lib.byteCells l) (w.drew.freeze ⟨g,0,none⟩ l.length):=by
  have V:Lib.BuilderAtF (ρ.t 72) (ρ.t 5) B b p (Lib.byteCells l) w.drew:=⟨W,_,z,by rw[Lib.byteCells_length];exact u,A⟩;have D:=V.froze (g:=g) (cap:=cap) (by rw[Lib.byteCells_length];exact N);rw[Lib.byteCells_length]at D;rcases hp with rfl|rfl
  ·exact .inl D
  ·exact .inr D
 have mixed:=L.mixed;have t72:=L.t72;have a72:=L.a72;have z72:=L.z72;have v72:=L.v72;have ag:=run_underlying L.t72;have t70:=L.t70;have a70:=L.a70;have z70:=L.z70;have v70:=L.v70;have af:=run_underlying L.t70;have t37:=L.t37;have a37:=L.a37;have z37:=L.z37;have v37:=L.v37;have ae:=run_underlying L.t37;have Q:=L.t127;have M:=L.a127;have U:=L.z127;have T:=L.v127;have R:=run_underlying L.t127;have t3:=L.t3;have a3:=L.a3;have z3:=L.z3;have v3:=L.v3;have u3:=run_underlying L.t3;have t9:=L.t9;have a9:=L.a9;have z9:=L.z9;have v9:=L.v9;have u9:=run_underlying L.t9;have t5:=X.t5;have a5:=X.a5;have z5:=X.z5;have v5:=X.v5;have u5:=run_underlying X.t5
 go_enter L.f169,Body.n169_ntmps ρ
 go_wp2
 go_region_o
 all_goals (go_wp2;go_ret;exact⟨rfl,y,Lib.below_freeze (Below.drew (Below.refl B w)) (p:=⟨g,0,none⟩) E _,Y⟩)
set_option maxHeartbeats 2000000 in
set_option maxRecDepth 100000 in
theorem ZpU (L:Lays.n169 P ρ)(X:Builder.Extra P ρ)(B b:Nat)(p:Value)(w:World)(g:w.heap[b]?=some (.cells #[p,.slice none 0 0] (ρ.t 72) (0,0)))(A:Lib.BuilderAtF (ρ.t 72) (ρ.t 5) B b p [] w) :
 Calls P (ρ.f 169) #[.pointer (some ⟨b,0,none⟩)] w fun e w'=>e=.returned (.string ⟨#[]⟩)/\Lib.BuilderAtF (ρ.t 72) (ρ.t 5) B b p [] w'/\Below B w w'/\Go.Am.Kept b w w':=by
 have C:=Zkp b w;have E:=Any.unsafeString_none L X
 have K:w.drew.cell? ⟨b,1,none⟩=some (.slice none 0 0):=by
  have:w.drew.heap[b]?=some (.cells #[p,.slice none 0 0] (ρ.t 72) (0,0)):=g;rw[Lib.cell_of_heap this];rfl
 have D:(Builtin.unsafeSliceData_ #[(ρ.t 37)] (ρ.t 127) #[.slice none 0 0]).run P w.drew=.ok (.pointer none) w.drew:=rfl;have mixed:=L.mixed;have t72:=L.t72;have a72:=L.a72;have z72:=L.z72;have v72:=L.v72;have J:=run_underlying L.t72;have t70:=L.t70;have a70:=L.a70;have z70:=L.z70;have v70:=L.v70;have I:=run_underlying L.t70;have t37:=L.t37;have a37:=L.a37;have z37:=L.z37;have v37:=L.v37;have F:=run_underlying L.t37;have j:=L.t127;have h:=L.a127;have z:=L.z127;have y:=L.v127;have u:=run_underlying L.t127;have t3:=L.t3;have a3:=L.a3;have z3:=L.z3;have v3:=L.v3;have M:=run_underlying L.t3;have t9:=L.t9;have a9:=L.a9;have z9:=L.z9;have v9:=L.v9;have O:=run_underlying L.t9;have t5:=X.t5;have a5:=X.a5;have z5:=X.z5;have v5:=X.v5;have N:=run_underlying X.t5
 go_enter L.f169,Body.n169_ntmps ρ
 go_wp2
 go_region_o
 all_goals (go_wp2;go_ret;exact⟨rfl,A.drew,Below.drew (Below.refl B w),C⟩)
set_option maxHeartbeats 2000000 in
set_option maxRecDepth 100000 in
theorem ZpV (L:Lays.n169 P ρ)(X:Builder.Extra P ρ)(B b g:Nat)(p:Value)(cur:Array Value)(w:World)(y:B<=w.heap.size)(h:w.heap[b]?=some (.cells #[p,.slice (some ⟨g,0,none⟩) 0 0] (ρ.t 72) (0,0)))(fz:Nat×Nat)(Q:w.heap[g]?=some (.cells cur (ρ.t 5) fz))(K:Lib.BuilderAtF (ρ.t 72) (ρ.t 5) B b p [] w) :
 Calls P (ρ.f 169) #[.pointer (some ⟨b,0,none⟩)] w fun e w'=>e=.returned (.string ⟨#[]⟩)/\Lib.BuilderAtF (ρ.t 72) (ρ.t 5) B b p [] w'/\Below B w w'/\Go.Am.Kept b w w':=by
 have O:=Any.unsafeString_none L X
 have j:b<w.heap.size:=by
  rcases zJ b w.heap.size with u|u
  ·exact u
  ·simp[zD u]at h
 have M:=ZqG b w (.view ⟨g,0,none⟩ (ρ.t 5)) j
 have I:w.drew.cell? ⟨b,1,none⟩=some (.slice (some ⟨g,0,none⟩) 0 0):=by
  have:w.drew.heap[b]?=some (.cells #[p,.slice (some ⟨g,0,none⟩) 0 0] (ρ.t 72) (0,0)):=h;rw[Lib.cell_of_heap this];rfl
 have N:(Builtin.unsafeSliceData_ #[(ρ.t 37)] (ρ.t 127) #[.slice (some ⟨g,0,none⟩) 0 0]).run P w.drew=.ok (.pointer (some ⟨w.drew.heap.size,0,none⟩)) (w.drew.alloc (.view ⟨g,0,none⟩ (ρ.t 5))) :=
  Lib.run_unsafeSliceData_zero w.drew _ _ (ρ.t 5) L.t127 ⟨g,0,none⟩ 0 ((ρ.t 5),cur.size) (by have z:w.drew.heap[g]?=some (.cells cur (ρ.t 5) fz):=Q;simp[World.shape?,z])
 have J:(w.drew.alloc (.view ⟨g,0,none⟩ (ρ.t 5))).cell? ⟨b,1,none⟩=some (.slice (some ⟨g,0,none⟩) 0 0):=by
  have:(w.drew.alloc (.view ⟨g,0,none⟩ (ρ.t 5))).heap[b]?=_:=(Lib.alloc_old w.drew _ b j).trans h;rw[Lib.cell_of_heap this];rfl
 have W:(w.alloc (.view ⟨g,0,none⟩ (ρ.t 5))).drew.cell? ⟨b,1,none⟩=some (.slice (some ⟨g,0,none⟩) 0 0):=J;have V:w.cell? ⟨b,1,none⟩=some (.slice (some ⟨g,0,none⟩) 0 0):=I;have mixed:=L.mixed;have t72:=L.t72;have a72:=L.a72;have z72:=L.z72;have v72:=L.v72;have U:=run_underlying L.t72;have t70:=L.t70;have a70:=L.a70;have z70:=L.z70;have v70:=L.v70;have T:=run_underlying L.t70;have t37:=L.t37;have a37:=L.a37;have z37:=L.z37;have v37:=L.v37;have R:=run_underlying L.t37;have C:=L.t127;have A:=L.a127;have F:=L.z127;have E:=L.v127;have D:=run_underlying L.t127;have t3:=L.t3;have a3:=L.a3;have z3:=L.z3;have v3:=L.v3;have Y:=run_underlying L.t3;have t9:=L.t9;have a9:=L.a9;have z9:=L.z9;have v9:=L.v9;have u9:=run_underlying L.t9;have t5:=X.t5;have a5:=X.a5;have z5:=X.z5;have v5:=X.v5;have Z:=run_underlying X.t5
 go_enter L.f169,Body.n169_ntmps ρ
 go_wp2
 go_region_o
 all_goals (go_wp2;go_ret;exact⟨rfl,K.drew.alloc _,(Below.drew (Below.refl B w)).alloc y _,M⟩)
set_option maxHeartbeats 2000000 in
set_option maxRecDepth 100000 in
theorem ZpW (L:Lays.n169 P ρ)(X:Builder.Extra P ρ)(B b g cap:Nat)(p:Value)(w:World)(h:cap≠0)(j:w.heap[b]?=some (.cells #[p,.slice (some ⟨g,0,none⟩) 0 cap] (ρ.t 72) (0,0)))(D:Lib.BuilderAtF (ρ.t 72) (ρ.t 5) B b p [] w) :
 Calls P (ρ.f 169) #[.pointer (some ⟨b,0,none⟩)] w fun e w'=>e=.returned (.string ⟨#[]⟩)/\Lib.BuilderAtF (ρ.t 72) (ρ.t 5) B b p [] w'/\Below B w w'/\Go.Am.Kept b w w':=by
 have E:=Zkp b w;have I:=Any.unsafeString_none L X
 have N:w.drew.cell? ⟨b,1,none⟩=some (.slice (some ⟨g,0,none⟩) 0 cap):=by
  have:w.drew.heap[b]?=some (.cells #[p,.slice (some ⟨g,0,none⟩) 0 cap] (ρ.t 72) (0,0)):=j;rw[Lib.cell_of_heap this];rfl
 have F:(Builtin.unsafeSliceData_ #[(ρ.t 37)] (ρ.t 127) #[.slice (some ⟨g,0,none⟩) 0 cap]).run P w.drew=.ok (.pointer (some ⟨g,0,none⟩)) w.drew :=
  Lib.run_unsafeSliceData_row _ _ _ _ _ _ h
 clear h;have mixed:=L.mixed;have t72:=L.t72;have a72:=L.a72;have z72:=L.z72;have v72:=L.v72;have M:=run_underlying L.t72;have t70:=L.t70;have a70:=L.a70;have z70:=L.z70;have v70:=L.v70;have K:=run_underlying L.t70;have t37:=L.t37;have a37:=L.a37;have z37:=L.z37;have v37:=L.v37;have J:=run_underlying L.t37;have y:=L.t127;have u:=L.a127;have C:=L.z127;have A:=L.v127;have z:=run_underlying L.t127;have t3:=L.t3;have a3:=L.a3;have z3:=L.z3;have v3:=L.v3;have O:=run_underlying L.t3;have t9:=L.t9;have a9:=L.a9;have z9:=L.z9;have v9:=L.v9;have R:=run_underlying L.t9;have t5:=X.t5;have a5:=X.a5;have z5:=X.z5;have v5:=X.v5;have Q:=run_underlying X.t5
 go_enter L.f169,Body.n169_ntmps ρ
 go_wp2
 go_region_o
 all_goals (go_wp2;go_ret;exact⟨rfl,D.drew,Below.drew (Below.refl B w),E⟩)
theorem Zs2 (L:Lays.n169 P ρ)(X:Builder.Extra P ρ)(B b:Nat)(l:List UInt8)(w:World)(h:Lib.IsBuilderF (ρ.t 72) (ρ.t 5) B b (Lib.byteCells l) w)(C:B<=w.heap.size) :
 Calls P (ρ.f 169) #[.pointer (some ⟨b,0,none⟩)] w fun e w'=>e=.returned (.string ⟨l.toArray⟩)/\Lib.IsBuilderF (ρ.t 72) (ρ.t 5) B b (Lib.byteCells l) w'/\Below B w w'/\Go.Am.Kept b w w':=by
 cases l with
 |cons x r=>exact ZpT L X B b (x::r) w h (by simp)
 |nil =>
  obtain⟨p,J,D⟩:∃ p,(p=.pointer none\/p=.pointer (some ⟨b,0,none⟩))/\Lib.BuilderAtF (ρ.t 72) (ρ.t 5) B b p [] w:=by
   rcases h with h|h
   ·exact⟨_,.inl rfl,h⟩
   ·exact⟨_,.inr rfl,h⟩
  have j:∀ (e:Ending) (w':World),(e=.returned (.string ⟨#[]⟩)/\Lib.BuilderAtF (ρ.t 72) (ρ.t 5) B b p [] w'/\Below B w w'/\Go.Am.Kept b w w')->e=.returned (.string ⟨#[]⟩)/\Lib.IsBuilderF (ρ.t 72) (ρ.t 5) B b [] w'/\Below B w w'/\Go.Am.Kept b w w':=by
   rintro e w' ⟨he,hk,hb,ho⟩
   rcases J with rfl|rfl
   ·exact⟨he,.inl hk,hb,ho⟩
   ·exact⟨he,.inr hk,hb,ho⟩
  have u:=D;obtain⟨K,v,y,A,I⟩:=D;rcases A.2 with ⟨rfl,_⟩|⟨g,cap,cur,fz,rfl,E,F,_,_,_,_,_⟩
  ·exact (ZpU L X B b p w y u).mono j
  ·by_cases z:cap=0
   ·subst z;exact (ZpV L X B b g p cur w C y fz F u).mono j
   ·exact (ZpW L X B b g cap p w z y u).mono j
end Go.Proofs
namespace Go.Am
open RowKit
section
variable {S:Snap}{W0:World}{H:Hp}
theorem Inv.bldStep (j:Inv W0 S H){o b:Nat}{T u:TypeId}{l l':List UInt8}(ho:H[o]?=some (.bld T u l))(hb:S.phi o=some b){w':World}(D:Lib.IsBuilderF T u W0.heap.size b (Lib.byteCells l') w')
 (C:Below W0.heap.size S.w w') (hk:Kept b S.w w'):∃ V,V.w=w'/\Ext S V/\Inv W0 V (H.set o (.bld T u l')):=by
 obtain⟨b',X,h2,h3,h4,h5⟩:=j.objs o _ ho;rw[hb]at X;injection X with X;subst X;have Z:o<H.length:=Zg ho
 obtain⟨v,hv⟩:∃ v,S.w.cell? ⟨b,1,none⟩=some v:=by
  rcases h2 with ⟨_,v,h,_⟩|⟨_,v,h,_⟩ <;> exact⟨v,by rw[Lib.cell_of_heap h];rfl⟩
 obtain⟨v',U⟩:∃ v,w'.cell? ⟨b,1,none⟩=some v:=by
  rcases D with ⟨_,v,h,_⟩|⟨_,v,h,_⟩ <;> exact⟨v,by rw[Lib.cell_of_heap h];rfl⟩
 have aq:W0.heap.size<=b:=D.elim (fun h=>h.1) fun h=>h.1
 have R:∀ k,k<S.w.heap.size->k≠b->(∀ e hw sz,S.tk o≠some (e,k,hw,sz))->w'.heap[k]?=S.w.heap[k]?:=fun k af ag ah=>hk.old k af ag fun x N J=>by
  obtain⟨⟨n,hw,sz,q⟩,_⟩:=h5 x k N J;exact ah _ _ _ q
 have Q:∀ k i,S.pub k i->w'.heap[k]?=S.w.heap[k]?:=fun k i K=>hk.old k (j.puball k i K) (fun e=>h4 i (e ▸ K)) fun x N J=>(h5 x k N J).2 i K
 have F:∀ n:Nat,(H.set o (.bld T u l'))[n]?≠some AObj.dead->H[n]?≠some AObj.dead:=fun n h=>by
  by_cases e:o=n
  ·subst e;rw[ho];simp
  ·rwa [zG e]at h
 -- the token of the row
 obtain⟨A,L,aa,ak,al⟩:∃ A:Nat->Option (Nat×Nat×Nat×Nat),(∀ t,t≠o->A t=S.tk t) /\
  (A o=S.tk o\/∃ n g,A o=some (n,g,0,0)/\S.w.heap.size<=g/\g<w'.heap.size/\∀ e b hw sz,S.tk o=some (e,b,hw,sz)->e<n) /\
  (∀ g,v'.ownBlock=some g->∃ n hw sz,A o=some (n,g,hw,sz))/\∀ g,v'.ownBlock=some g->∀ i,¬ S.pub g i:=by
  cases J:v'.ownBlock with
  |none=>exact⟨S.tk,fun _ _=>rfl,.inl rfl,fun g h=>(by cases h),fun g h=>(by cases h)⟩
  |some g =>
   rcases hk.row v v' g hv U J with h|h
   ·obtain⟨⟨n,hw,sz,q⟩,Y⟩:=h5 v g hv h;exact⟨S.tk,fun _ _=>rfl,.inl rfl,fun g' e=>by injection e with e;subst e;exact⟨n,hw,sz,q⟩,fun g' e=>by injection e with e;subst e;exact Y⟩
   ·refine⟨fun t=>if t=o then some ((match S.tk o with|some (n,_)=>n+1|none=>0),g,0,0) else S.tk t,fun t ht=>if_neg ht,.inr ⟨_,g,if_pos rfl,h,D.own_lt U J,fun e b hw sz q=>by rw[q];exact Nat.lt_succ_self _⟩,
     fun g' e=>by injection e with e;subst e;exact⟨_,0,0,if_pos rfl⟩,fun g' e i K=>by injection e with e;subst e;have:=j.puball _ _ K;omega⟩
 have am:∀ t e b hw sz,S.tk t=some (e,b,hw,sz)->∃ W b' ab ac,A t=some (W,b',ab,ac)/\e<=W/\(W=e->b'=b/\ab=hw/\ac=sz):=fun t e B hw sz h=>by
  by_cases y:t=o
  ·subst y;rcases aa with h'|⟨n,g,X,h2,h3,h4⟩
   ·exact⟨e,B,hw,sz,h'.trans h,zF _,fun _=>⟨rfl,rfl,rfl⟩⟩
   ·have:=h4 _ _ _ _ h;exact⟨n,g,0,0,X,by omega,fun h=>by omega⟩
  ·exact⟨e,B,hw,sz,(L t y).trans h,zF _,fun _=>⟨rfl,rfl,rfl⟩⟩
 let V:Snap:={ w:=w',phi:=S.phi,pub:=S.pub,tk:=A,lim:=S.lim }
 have N:Ext S V:=⟨⟨fun _ _ h=>h,fun k i h=>⟨h,by show w'.cell? _=_;unfold World.cell?;rw[Q k i h]⟩,am⟩,rfl,fun _ _ h _=>h⟩
 have I:∀ t e B hw sz,A t=some (e,B,hw,sz)->(∃ e0 hw0 ao,S.tk t=some (e0,B,hw0,ao))\/(t=o/\S.w.heap.size<=B/\B<w'.heap.size):=fun t e B hw sz h=>by
  by_cases y:t=o
  ·subst y;rcases aa with h'|⟨n,g,O,Y,q3,q4⟩
   ·exact .inl ⟨e,hw,sz,h'.symm.trans h⟩
   ·rw[O]at h;simp only[zA,zC]at h;exact .inr ⟨rfl,by omega,by omega⟩
  ·exact .inl ⟨e,hw,sz,(L t y).symm.trans h⟩
 refine⟨V,rfl,N,⟨j.below.trans C,fun n z h=>?_,fun n hn=>?_,fun o1 o2 B g1 g2 ad ae=>j.inj o1 o2 B g1 g2 (F _ ad) (F _ ae),fun t t' e B hw sz e2 ar au g1 g2=>?_,fun t e B hw sz x h=>?_,fun k i h=>?_,fun x B h=>?_,fun t e B hw sz h=>?_,j.lim⟩⟩
 ·by_cases e:o=n
  ·subst e;simp[Z]at h;subst h;refine⟨b,hb,D,h3,h4,fun x g N J=>?_⟩
   have:x=v':=by
    have M:w'.cell? ⟨b,1,none⟩=some x:=N;rw[U]at M;injection M with M;exact M.symm
   subst this;exact⟨ak g J,al g J⟩
  ·rw[zG e]at h
   cases z with
   |dead=>trivial
   |_ =>
    refine (j.objs n _ h).frame N (fun k E ai=>⟨R k ai ?_ ?_,fun i K=>K⟩) (L n (Ne.symm e)) rfl
    ·rintro rfl
     rcases E with E|⟨W,hw,sz,ht⟩
     ·exact e (j.inj o n k hb E (by rw[ho];simp) (by rw[h];simp))
     ·exact j.apart n W k hw sz o ht hb
    ·intro e1 an ap y;rcases E with E|⟨W,hw,sz,ht⟩
     ·exact j.apart o e1 k an ap n y E
     ·exact e (j.tinj _ _ _ _ _ _ _ _ _ y ht)
 ·have aj:H.length<=n:=by simpa using hn
  obtain⟨p,q⟩:=j.past n aj;exact⟨p,(L n (by omega)).trans q⟩
 ·rcases I _ _ _ _ _ g1 with ⟨_,_,_,O⟩|⟨r1,r2,_⟩
  ·rcases I _ _ _ _ _ g2 with ⟨_,_,_,Y⟩|⟨r1,r2,_⟩
   ·exact j.tinj _ _ _ _ _ _ _ _ _ O Y
   ·have:=j.tdom _ _ _ _ _ O;omega
  ·rcases I _ _ _ _ _ g2 with ⟨_,_,_,Y⟩|⟨r3,r4,_⟩
   ·have:=j.tdom _ _ _ _ _ Y;omega
   ·rw[r1,r3]
 ·rcases I _ _ _ _ _ h with ⟨_,_,_,O⟩|⟨r1,r2,_⟩
  ·exact j.apart _ _ _ _ _ x O
  ·intro K;have:=j.dom x B K;omega
 ·exact zE (j.puball k i h) C.size
 ·exact zE (j.dom x B h) C.size
 ·rcases I _ _ _ _ _ h with ⟨_,_,_,O⟩|⟨r1,r2,r3⟩
  ·exact zE (j.tdom _ _ _ _ _ O) C.size
  ·exact r3
def ZgW:Nat:=140737488355328
def ZgD (T u:TypeId)(f:List UInt8->Option (AV×List UInt8)):AObj->Option (AV×AObj)
 |.bld T' u' l=>if T'=T/\u'=u then (match f l with|some (v,l')=>some (v,.bld T u l')|none=>none) else none
 |_=>none
def Sz (T u:TypeId)(f:List AV->Option (List UInt8->Option (AV×List UInt8)))(args:List AV)(H:Hp):Option (AV×Hp) :=
 match args with
 |.ptr o 0::rest=>match f rest with
  |some g=>match H[o]? with
   |some z=>match ZgD T u g z with
    |some (v,y)=>some (v,H.set o y)
    |none=>none
   |none=>none
  |none=>none
 |_=>none
theorem Zs4 (T u:TypeId)(f:List AV->Option (List UInt8->Option (AV×List UInt8)))(args:List AV):Xh (Sz T u f args):=by
 unfold Sz;split
 ·rename_i o rest
  cases f rest with
  |none=>exact Zv
  |some g =>
   refine Xq (B6 o (ZgD T u g) rfl (fun z v y h=>?_)) fun H=>?_
   ·unfold ZgD at h;split at h
    ·split at h
     ·split at h
      ·injection h with h;injection h with A j;subst j;simp
      ·cases h
     ·cases h
    ·cases h
   ·dsimp only;rcases H[o]? with _|z
    ·rfl
    ·dsimp only;cases ZgD T u g z <;> rfl
 ·exact Zv
def Zjr (T u:TypeId)(f:List AV->Option (List UInt8->Option (AV×List UInt8))):EffFn:=⟨Sz T u f,Zs4 T u f⟩
def ZhR:List AV->Option (List UInt8->Option (AV×List UInt8))
 |[.int .u8 c]=>if 0<=c/\c<256 then some fun l=>if l.length+1<=ZgW then some (.nili,l++[zL c.toNat]) else none else none
 |_=>none
def Zly:List AV->Option (List UInt8->Option (AV×List UInt8))
 |[.str s]=>some fun l=>if l.length+s.length<=ZgW then some (.tuple [.int .i64 s.length,.nili],l++s) else none
 |_=>none
def ZjU:List AV->Option (List UInt8->Option (AV×List UInt8))
 |[]=>some fun l=>some (.str l,l)
 |_=>none
def ZwR (T u:TypeId):EffFn:=Zjr T u ZhR
def ZwS (T u:TypeId):EffFn:=Zjr T u Zly
def Zxm (T u:TypeId):EffFn:=Zjr T u ZjU
theorem ZnZ {T u:TypeId}{f:List AV->Option (List UInt8->Option (AV×List UInt8))}{args:List AV}{H':Hp}{v:AV}(h:Sz T u f args H=some (v,H')) :
 ∃ o rest g l A,args=.ptr o 0::rest/\f rest=some g/\H[o]?=some (.bld T u l)/\g l=some (v,A)/\H'=H.set o (.bld T u A):=by
 unfold Sz at h;split at h
 ·rename_i o rest;split at h
  ·rename_i g C;split at h
   ·rename_i z E;split at h
    ·rename_i J y j;simp only[zA,zC]at h;obtain⟨rfl,rfl⟩:=h;unfold ZgD at j;split at j
     ·rename_i F I l;split at j
      ·rename_i B;obtain⟨rfl,rfl⟩:=B;split at j
       ·rename_i K A D;simp only[zA,zC]at j;obtain⟨rfl,rfl⟩:=j;exact⟨o,rest,g,l,A,rfl,C,E,D,rfl⟩
       ·cases j
      ·cases j
     ·cases j
    ·cases h
   ·cases h
  ·cases h
 ·cases h
end
def Za6 (P:Program)(T u:TypeId)(id:FuncId)(f:List AV->Option (List UInt8->Option (AV×List UInt8))):Prop :=
 ∀ (B b:Nat) (rest:List AV) (h:Array Value) (g:List UInt8->Option (AV×List UInt8)) (l l':List UInt8) (v:AV) (w:World),f rest=some g->g l=some (v,l')->h.size=rest.length ->
  (∀ (S:Snap),S.w=w->(∀ (i:Nat) (a:AV) (x:Value),rest[i]?=some a->h[i]?=some x->VRel S a x)->Lib.IsBuilderF T u B b (Lib.byteCells l) w->B<=w.heap.size ->
   Calls P id (#[.pointer (some ⟨b,0,none⟩)]++h) w fun e w'=>∃ v',e=.returned v'/\(∀ j:Snap,VRel j v v')/\Lib.IsBuilderF T u B b (Lib.byteCells l') w'/\Below B w w'/\Kept b w w')
theorem Zjs {C:Cfg}{T u:TypeId}{id:FuncId}{f:List AV->Option (List UInt8->Option (AV×List UInt8))}(h:Za6 C.P T u id f):FH C id (Zjr T u f):=by
 intro W0 S H H' args args' v B Y D F N;obtain⟨o,rest,g,l,O,rfl,K,J,L,rfl⟩:=ZnZ N;obtain⟨b',y,A,V,W,X⟩:=B.objs o _ J;obtain⟨z⟩:=args'
 match z,D with
 |p::z,D =>
  have M:=F 0 _ p rfl rfl;cases M with|ptr _ _ b hb =>
  rw[hb]at y;injection y with y;subst y;have I:=h W0.heap.size b rest ⟨z⟩ g l O v S.w K L (by simpa using D) S rfl (fun i a x y A=>F (i+1) a x (by simpa using y) (by simpa using A)) A B.size;have j:(#[.pointer (some ⟨b,0,none⟩)]++⟨z⟩:Array Value)=⟨.pointer (some ⟨b,0,none⟩)::z⟩:=by simp
  rw[j]at I;refine I.mono ?_
  rintro e w' ⟨v',rfl,q1,q2,q3,q4⟩
  obtain⟨E,Q,R,U⟩:=B.bldStep J hb q2 q3 q4;exact⟨v',E,rfl,Q,R,U,q1 E⟩
end Go.Am
namespace Go.Am
open Go.Shelf Go.RowKit Go.Proofs
variable {P:Program}{ρ:Ren}
theorem Zo1 (L:Lays.n167 P ρ)(X:Builder.Extra P ρ):Za6 P (ρ.t 72) (ρ.t 5) (ρ.f 167) ZhR:=by
 intro B b rest j g l K v w h u E S hw D C z;unfold ZhR at h;split at h
 ·rename_i c;split at h
  ·rename_i J;injection h with h;subst h;simp only at u;split at u
   ·rename_i y;simp only[zA,zC]at u;obtain⟨rfl,rfl⟩:=u;obtain⟨A⟩:=j
    match A,E with
    |[x],_ =>
     have F:=D 0 _ x rfl rfl;cases F;have:=Zxn L X B b (Lib.byteCells l) c w C (by rw[Lib.byteCells_length];exact y) z;refine this.mono ?_
     rintro e w' ⟨rfl,q1,q2,q3⟩
     refine⟨_,rfl,fun I=>.nili,.inr ?_,q2,q3⟩;rw[Lib.byteCells_append]
     have:Lib.byteCells [zL c.toNat]=[Value.int .u8 c]:=by
      simp only[Lib.byteCells,zH,zI];congr 2;simp;omega
     rw[this];exact q1
   ·cases u
  ·cases h
 ·cases h
theorem ZoS (L:Lays.n166 P ρ)(X:Builder.Extra P ρ):Za6 P (ρ.t 72) (ρ.t 5) (ρ.f 166) Zly:=by
 intro B b rest h g l M v w j u I S hw F E C;unfold Zly at j;split at j
 ·rename_i s;injection j with j;subst j;simp only at u;split at u
  ·rename_i y;simp only[zA,zC]at u;obtain⟨rfl,rfl⟩:=u;obtain⟨D⟩:=h
   match D,I with
   |[x],_ =>
    have J:=F 0 _ x rfl rfl;cases J with|str _ sb hsb =>
    have z:sb.size=s.length:=by rw[<-hsb,Array.length_toList];rfl
    have:=Zxo L X B b (Lib.byteCells l) sb w E (by rw[Lib.byteCells_length,z];exact y) C;refine this.mono ?_
    rintro e w' ⟨rfl,q1,q2,q3⟩
    refine⟨_,rfl,fun K=>.tuple _ _ rfl fun i c v hi A=>?_,.inr ?_,q2,q3⟩
    ·match i with
     |0=>simp at hi A;subst hi A;rw[z];exact .int _ _
     |1=>simp at hi A;subst hi A;exact .nili
     |i+2=>simp at hi
    ·rw[Lib.byteCells_append,<-hsb,<-Lib.strCells_eq];exact q1
  ·cases u
 ·cases j
theorem Zlp (L:Lays.n169 P ρ)(X:Builder.Extra P ρ):Za6 P (ρ.t 72) (ρ.t 5) (ρ.f 169) ZjU:=by
 intro B b rest h g l F v w j y C S hw E A u;unfold ZjU at j;split at j
 ·injection j with j;subst j;simp only[zA,zC]at y;obtain⟨rfl,rfl⟩:=y;obtain⟨z⟩:=h
  match z,C with
  |[],_ =>
   refine (Zs2 L X B b l w A u).mono ?_
   rintro e w' ⟨rfl,q1,q2,q3⟩
   exact⟨_,rfl,fun D=>.str _ _ (by simp),q1,q2,q3⟩
 ·cases j
end Go.Am
