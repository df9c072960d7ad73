/- Lists of strings in the machine -/
import Derived.Test.YtjmhpjoedfegkaaGreatDoorRwSx
import Derived.Test.YtjmhpjoedfegkaaGreatDoorRwEx
import Derived.Test.YtjmhpjoedfegkaaGreatDoorRwGMx
open Option renaming some->O,none->S
open List renaming map_eq_nil_iff->zB
open Go.Am.AV renaming str->zA
namespace Go.Am
set_option linter.unusedSectionVars false
set_option maxRecDepth 100000
abbrev ZW:=dr
abbrev SS (x:AV)(l:List ZW):Prop:=Sl 1 x (l.map zA)
theorem SS.len {x:AV}{l:List ZW}(h:SS x l)(e:Nat):Zf (.slice e) x=O (.int .i64 (l.length:Int)):=by
 have:=Sl.len h e
 rwa [List.length_map]at this
theorem SS.idx {x:AV}{l:List ZW}(h:SS x l){i:Nat}{s:ZW}(hi:l[i]?=O s):Zr 1 x (.int .i64 (i:Int))=O (.vp [.str s]):=Sl.idx h (c:=.str s) (by simp[hi])
theorem SS.closed {x:AV}{l:List ZW}(h:SS x l)(H:Hp)(n f:Nat):∃ j,Zk H n (f+2) x=O j/\SS j l :=
 Sl.close h (f:=f+1) (λy u=>by obtain⟨m,_,rfl⟩:=List.mem_map.1 u;rfl)
theorem SS.lo {x:AV}{l:List ZW}(h:SS x l){n:Nat}(y:n<=l.length):∃ u,Yk 1 x (O (.int .i64 (n:Int))) S S=O u/\SS u (l.drop n):=by
 rcases h with ⟨rfl,w⟩|⟨tok,rfl⟩
 ·have:l=[]:=zB.1 w;subst this;have j:n=0:=by simpa using y
  subst j;exact⟨.nils,ZhD 1 .i64,.inl ⟨rfl,rfl⟩⟩
 ·exact⟨_,Zqm 1 tok .i64 b5 (by simp;omega),.inr ⟨tok,dh⟩⟩
theorem Zql {l:du}{n:Nat}(z:Nat)(t:Tok)(h:n<=l.length):∃ j,Yk z (.vs z t l) S (O (.int .i64 (n:Int))) S=O (.vs z j (l.take n)):=by
 refine⟨if n=l.length then t else .no,?_⟩;simp only[Yk]
 delta Yy
 simp[Xd,h]
theorem SS.hi {x:AV}{l:List ZW}(h:SS x l){n:Nat}(z:n<=l.length):∃ u,Yk 1 x S (O (.int .i64 (n:Int))) S=O u/\SS u (l.take n):=by
 rcases h with ⟨rfl,w⟩|⟨tok,rfl⟩
 ·have:l=[]:=zB.1 w;subst this;have j:n=0:=by simpa using z
  subst j;refine⟨.nils,?_,.inl ⟨rfl,dh⟩⟩;simp only[Yk]
  delta Yy
  simp[Xd]
 ·obtain⟨A,y⟩:=Zql 1 tok (l:=l.map zA) (n:=n) (by simp;omega);exact⟨_,y,.inr ⟨A,dh⟩⟩
theorem SS.elems {x:AV}{l:List ZW}(h:SS x l)(H:Hp):elems 1 x H=O (l.map zA):=by
 rcases h with ⟨rfl,j⟩|⟨tok,rfl⟩
 ·rw[j];rfl
 ·rfl
abbrev RS (H:Hp)(x:AV)(l:List ZW):Prop:=RowN 0 H 1 x (l.map zA)
theorem RS.app {H:Hp}{x:AV}{l:List ZW}(h:RS H x l){y:AV}{m:List ZW}(u:SS y m)(A:l.length+m.length<=4194304):∃ j H',Ya 1 16 x y H=O (j,H')/\RS H' j (l++m):=by
 obtain⟨j,H',w,z,_,_,_⟩:=RowN.app h (Nat.zero_le _) 16 y (m.map zA) (SS.elems u H) (by simp;omega);exact⟨j,H',w,by show RowN 0 H' 1 j ((l++m).map zA);rw[List.map_append];exact z⟩
theorem VH (s:ZW):(ZB 1 [(0,zA s)] [(.str [])]).map (AV.vs 1 .clip)=O (.vs 1 .clip [.str s]):=rfl
theorem Zin (s:ZW):SS (.vs 1 .clip [.str s]) [s]:=.inr ⟨.clip,rfl⟩
theorem RS.done {H:Hp}{x:AV}{l:List ZW}(h:RS H x l)(H1:Hp):∃ j,Zk H1 0 9 x=O j/\SS j l:=SS.closed h.sl H1 0 7
abbrev XK (l:List ZW):Prop:=∀ s∈l,s.length<=1048576
theorem Ztx {f:du->Hp->Z3}{a a' v v':AV}{H H1:Hp}(h:Zk [] 0 9 a=O a')(j:f [a'] []=O (v,H1))(u:Zk H1 0 9 v=O v'):Ze f [a] H=O (v',H) :=
 A0 (args':=[a']) (by rw[List.mapM_cons,h];rfl) j u
theorem SK {x:AV}{l:List ZW}(h:SS x l)(N:l.length<=1048576)(H:Hp):∃ y,Ze Yq [x] H=O (y,H)/\SS y l:=by
 obtain⟨L,B,w⟩:=SS.closed h [] 0 7
 suffices hs:∃ y H1,Yq [L] []=O (y,H1)/\SS y l by
  obtain⟨y,H1,D,E⟩:=hs;obtain⟨M,F,G⟩:=SS.closed E H1 0 7;exact⟨M,Ztx B D F,G⟩
 rw[Du];unfold UU;have u:=w;rcases w with ⟨rfl,j⟩|⟨tok,rfl⟩
 ·have:l=[]:=zB.1 j;subst this;exact⟨.nils,[],rfl,.inl ⟨rfl,rfl⟩⟩
 ·have z:Y5 (.slice 9) .eql (.vs 1 tok (l.map zA)) .nils=O (.bool false):=rfl;have A:(ZB 1 [] []).map (AV.vs 1 .clip)=O (.vs 1 .clip []):=rfl;simp only[z,go_sem,BY,A,Ya,SS.elems u];unfold YR;have C:Xe (([]:du).length+(l.map zA).length) 16=true:=by simp[Xe];omega
  simp only[C,and_self,if_true];by_cases j:l.map zA=[]
  ·exact⟨.vs 1 .clip [],[],by simp[j,Xz],.inr ⟨.clip,by rw[j]⟩⟩
  ·refine⟨.vs 1 (.own 0 l.length) (l.map zA),[.tok l.length],by simp[j,Xz],.inr ⟨_,rfl⟩⟩
end Go.Am
