/- Lists of strings in the machine -/
import Derived.Test.YtmclihijlmlpkaaGreatDoorXeSx
import Derived.Test.YtmclihijlmlpkaaGreatDoorXeEx
import Derived.Test.YtmclihijlmlpkaaGreatDoorXeGMx
open Option renaming some->O,none->S
open List renaming map_eq_nil_iff->zB
open Go.Am.AV renaming str->zA
namespace Go.Am
set_option linter.unusedSectionVars false
set_option maxRecDepth 100000
abbrev Zi:=cz
abbrev SS (x:AV)(l:List Zi):Prop:=Sl 1 x (l.map zA)
theorem SS.len {x:AV}{l:List Zi}(h:SS x l)(e:Nat):Zk (.slice e) x=O (.int .i64 (l.length:Int)):=by
 have:=Sl.len h e
 rwa [List.length_map]at this
theorem SS.idx {x:AV}{l:List Zi}(h:SS x l){i:Nat}{s:Zi}(hi:l[i]?=O s):Zj 1 x (.int .i64 (i:Int))=O (.vp [.str s]):=Sl.idx h (c:=.str s) (by simp[hi])
theorem SS.closed {x:AV}{l:List Zi}(h:SS x l)(H:Hp)(n f:Nat):∃ g,Zh H n (f+2) x=O g/\SS g l :=
 Sl.close h (f:=f+1) (λy j=>by obtain⟨m,_,rfl⟩:=List.mem_map.1 j;rfl)
theorem SS.lo {x:AV}{l:List Zi}(h:SS x l){n:Nat}(w:n<=l.length):∃ j,YC 1 x (O (.int .i64 (n:Int))) S S=O j/\SS j (l.drop n):=by
 rcases h with ⟨rfl,u⟩|⟨tok,rfl⟩
 ·have:l=[]:=zB.1 u;subst this;have g:n=0:=by simpa using w
  subst g;exact⟨.nils,ZhE 1 .i64,.inl ⟨rfl,rfl⟩⟩
 ·exact⟨_,ZqZ 1 tok .i64 cm (by simp;omega),.inr ⟨tok,cn⟩⟩
theorem ZqY {l:c6}{n:Nat}(z:Nat)(t:Tok)(g:n<=l.length):∃ h,YC z (.vs z t l) S (O (.int .i64 (n:Int))) S=O (.vs z h (l.take n)):=by
 refine⟨if n=l.length then t else .no,?_⟩;simp only[YC]
 delta YQ
 simp[Xj,g]
theorem SS.hi {x:AV}{l:List Zi}(h:SS x l){n:Nat}(y:n<=l.length):∃ j,YC 1 x S (O (.int .i64 (n:Int))) S=O j/\SS j (l.take n):=by
 rcases h with ⟨rfl,u⟩|⟨tok,rfl⟩
 ·have:l=[]:=zB.1 u;subst this;have g:n=0:=by simpa using y
  subst g;refine⟨.nils,?_,.inl ⟨rfl,cn⟩⟩;simp only[YC]
  delta YQ
  simp[Xj]
 ·obtain⟨z,w⟩:=ZqY 1 tok (l:=l.map zA) (n:=n) (by simp;omega);exact⟨_,w,.inr ⟨z,cn⟩⟩
theorem SS.elems {x:AV}{l:List Zi}(h:SS x l)(H:Hp):elems 1 x H=O (l.map zA):=by
 rcases h with ⟨rfl,g⟩|⟨tok,rfl⟩
 ·rw[g];rfl
 ·rfl
abbrev RS (H:Hp)(x:AV)(l:List Zi):Prop:=RowN 0 H 1 x (l.map zA)
theorem RS.app {H:Hp}{x:AV}{l:List Zi}(h:RS H x l){y:AV}{m:List Zi}(j:SS y m)(z:l.length+m.length<=4194304):∃ g H',ZR 1 16 x y H=O (g,H')/\RS H' g (l++m):=by
 obtain⟨g,H',u,w,_,_,_⟩:=RowN.app h (Nat.zero_le _) 16 y (m.map zA) (SS.elems j H) (by simp;omega);exact⟨g,H',u,by show RowN 0 H' 1 g ((l++m).map zA);rw[List.map_append];exact w⟩
theorem Jf (s:Zi):(Zt 1 [(0,zA s)] [(.str [])]).map (AV.vs 1 .clip)=O (.vs 1 .clip [.str s]):=rfl
theorem Zby (s:Zi):SS (.vs 1 .clip [.str s]) [s]:=.inr ⟨.clip,rfl⟩
theorem RS.done {H:Hp}{x:AV}{l:List Zi}(h:RS H x l)(H1:Hp):∃ g,Zh H1 0 9 x=O g/\SS g l:=SS.closed h.sl H1 0 7
abbrev YE (l:List Zi):Prop:=∀ s∈l,s.length<=1048576
theorem Zuf {f:c6->Hp->Z4}{a a' v v':AV}{H H1:Hp}(g:Zh [] 0 9 a=O a')(h:f [a'] []=O (v,H1))(j:Zh H1 0 9 v=O v'):Ze f [a] H=O (v',H) :=
 JD (args':=[a']) (by rw[List.mapM_cons,g];rfl) h j
theorem EP {x:AV}{l:List Zi}(h:SS x l)(N:l.length<=1048576)(H:Hp):∃ y,Ze Yr [x] H=O (y,H)/\SS y l:=by
 obtain⟨L,A,u⟩:=SS.closed h [] 0 7
 suffices hs:∃ y H1,Yr [L] []=O (y,H1)/\SS y l by
  obtain⟨y,H1,C,D⟩:=hs;obtain⟨M,E,F⟩:=SS.closed D H1 0 7;exact⟨M,Zuf A C E,F⟩
 rw[BX];unfold UI;have j:=u;rcases u with ⟨rfl,g⟩|⟨tok,rfl⟩
 ·have:l=[]:=zB.1 g;subst this;exact⟨.nils,[],rfl,.inl ⟨rfl,rfl⟩⟩
 ·have w:YJ (.slice 9) .eql (.vs 1 tok (l.map zA)) .nils=O (.bool false):=rfl;have z:(Zt 1 [] []).map (AV.vs 1 .clip)=O (.vs 1 .clip []):=rfl;simp only[w,go_sem,B3,z,ZR,SS.elems j];unfold Ys;have B:YB (([]:c6).length+(l.map zA).length) 16=true:=by simp[YB];omega
  simp only[B,and_self,if_true];by_cases g:l.map zA=[]
  ·exact⟨.vs 1 .clip [],[],by simp[g,Ww],.inr ⟨.clip,by rw[g]⟩⟩
  ·refine⟨.vs 1 (.own 0 l.length) (l.map zA),[.tok l.length],by simp[g,Ww],.inr ⟨_,rfl⟩⟩
end Go.Am
