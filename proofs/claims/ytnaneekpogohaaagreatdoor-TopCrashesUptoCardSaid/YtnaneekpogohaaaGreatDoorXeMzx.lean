/- Lists of strings in the machine -/
import Derived.Test.YtnaneekpogohaaaGreatDoorXeSx
import Derived.Test.YtnaneekpogohaaaGreatDoorXeEx
import Derived.Test.YtnaneekpogohaaaGreatDoorXeGMx
open List renaming map_eq_nil_iff->zB
open Go.Am.AV renaming str->zA
namespace Go.Am
set_option linter.unusedSectionVars false
set_option maxRecDepth 100000
abbrev Zl:=List UInt8
abbrev SS (x:AV)(l:List Zl):Prop:=Sl 1 x (l.map zA)
theorem SS.len {x:AV}{l:List Zl}(h:SS x l)(e:Nat):Zk (.slice e) x=some (.int .i64 (l.length:Int)):=by
 have:=Sl.len h e
 rwa [List.length_map]at this
theorem SS.idx {x:AV}{l:List Zl}(h:SS x l){i:Nat}{s:Zl}(hi:l[i]?=some s):Zo 1 x (.int .i64 (i:Int))=some (.vp [.str s]):=Sl.idx h (c:=.str s) (by simp[hi])
theorem SS.closed {x:AV}{l:List Zl}(h:SS x l)(H:Hp)(n f:Nat):∃ g,Ze H n (f+2) x=some g/\SS g l :=
 Sl.close h (f:=f+1) (fun y j=>by obtain⟨m,_,rfl⟩:=List.mem_map.1 j;rfl)
theorem SS.lo {x:AV}{l:List Zl}(h:SS x l){n:Nat}(w:n<=l.length):∃ j,Yg 1 x (some (.int .i64 (n:Int))) none none=some j/\SS j (l.drop n):=by
 rcases h with ⟨rfl,u⟩|⟨tok,rfl⟩
 ·have:l=[]:=zB.1 u;subst this;have g:n=0:=by simpa using w
  subst g;exact⟨.nils,ZhQ 1 .i64,.inl ⟨rfl,rfl⟩⟩
 ·exact⟨_,ZpR 1 tok .i64 (by omega) (by simp;omega),.inr ⟨tok,by simp⟩⟩
theorem ZpQ {l:List AV}{n:Nat}(z:Nat)(t:Tok)(g:n<=l.length):∃ h,Yg z (.vs z t l) none (some (.int .i64 (n:Int))) none=some (.vs z h (l.take n)):=by
 refine⟨if n=l.length then t else .no,?_⟩;simp only[Yg]
 delta Ys
 simp[X8,g]
theorem SS.hi {x:AV}{l:List Zl}(h:SS x l){n:Nat}(y:n<=l.length):∃ j,Yg 1 x none (some (.int .i64 (n:Int))) none=some j/\SS j (l.take n):=by
 rcases h with ⟨rfl,u⟩|⟨tok,rfl⟩
 ·have:l=[]:=zB.1 u;subst this;have g:n=0:=by simpa using y
  subst g;refine⟨.nils,?_,.inl ⟨rfl,by simp⟩⟩;simp only[Yg]
  delta Ys
  simp[X8]
 ·obtain⟨z,w⟩:=ZpQ 1 tok (l:=l.map zA) (n:=n) (by simp;omega);exact⟨_,w,.inr ⟨z,by simp⟩⟩
theorem SS.elems {x:AV}{l:List Zl}(h:SS x l)(H:Hp):elems 1 x H=some (l.map zA):=by
 rcases h with ⟨rfl,g⟩|⟨tok,rfl⟩
 ·rw[g];rfl
 ·rfl
abbrev RS (H:Hp)(x:AV)(l:List Zl):Prop:=RowN 0 H 1 x (l.map zA)
theorem RS.app {H:Hp}{x:AV}{l:List Zl}(h:RS H x l){y:AV}{m:List Zl}(j:SS y m)(z:l.length+m.length<=4194304):∃ g H',Y9 1 16 x y H=some (g,H')/\RS H' g (l++m):=by
 obtain⟨g,H',u,w,_,_,_⟩:=RowN.app h (Nat.zero_le _) 16 y (m.map zA) (SS.elems j H) (by simp;omega);exact⟨g,H',u,by show RowN 0 H' 1 g ((l++m).map zA);rw[List.map_append];exact w⟩
theorem Rz (s:Zl):(ZB 1 [(0,zA s)] [(.str [])]).map (AV.vs 1 .clip)=some (.vs 1 .clip [.str s]):=rfl
theorem ZiD (s:Zl):SS (.vs 1 .clip [.str s]) [s]:=.inr ⟨.clip,rfl⟩
theorem RS.done {H:Hp}{x:AV}{l:List Zl}(h:RS H x l)(H1:Hp):∃ g,Ze H1 0 9 x=some g/\SS g l:=SS.closed h.sl H1 0 7
abbrev We (l:List Zl):Prop:=∀ s∈l,s.length<=1048576
theorem ZsP {f:List AV->Hp->Z4}{a a' v v':AV}{H H1:Hp}(g:Ze [] 0 9 a=some a')(h:f [a'] []=some (v,H1))(j:Ze H1 0 9 v=some v'):Zh f [a] H=some (v',H) :=
 Na (args':=[a']) (by rw[List.mapM_cons,g];rfl) h j
theorem Ec {x:AV}{l:List Zl}(h:SS x l)(L:l.length<=1048576)(H:Hp):∃ y,Zh Ym [x] H=some (y,H)/\SS y l:=by
 obtain⟨I,A,u⟩:=SS.closed h [] 0 7
 suffices hs:∃ y H1,Ym [I] []=some (y,H1)/\SS y l by
  obtain⟨y,H1,C,D⟩:=hs;obtain⟨K,E,F⟩:=SS.closed D H1 0 7;exact⟨K,ZsP A C E,F⟩
 rw[Dv];unfold Q8;have j:=u;rcases u with ⟨rfl,g⟩|⟨tok,rfl⟩
 ·have:l=[]:=zB.1 g;subst this;exact⟨.nils,[],rfl,.inl ⟨rfl,rfl⟩⟩
 ·have w:Yr (.slice 9) .eql (.vs 1 tok (l.map zA)) .nils=some (.bool false):=rfl;have z:(ZB 1 [] []).map (AV.vs 1 .clip)=some (.vs 1 .clip []):=rfl;simp only[w,go_sem,BD,z,Y9,SS.elems j];unfold YN;have B:Xg (([]:List AV).length+(l.map zA).length) 16=true:=by simp[Xg];omega
  simp only[B,and_self,if_true];by_cases g:l.map zA=[]
  ·exact⟨.vs 1 .clip [],[],by simp[g,Vc],.inr ⟨.clip,by rw[g]⟩⟩
  ·refine⟨.vs 1 (.own 0 l.length) (l.map zA),[.tok l.length],by simp[g,Vc],.inr ⟨_,rfl⟩⟩
end Go.Am
