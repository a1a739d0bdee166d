/- What Parse hands back, in plain words; a program in new memory. Conditions: none. | The walk over the package code's Parse. Conditions: the library's variables. -/
import Derived.Test.YtplcndmdkabmeaaGreatDoorParP
import Derived.Test.YtplcndmdkabmeaaGreatDoorPrg
import Derived.Test.YtplcndmdkabmeaaGreatDoorParInstr
import Derived.Test.YtplcndmdkabmeaaGreatDoorVal
set_option linter.unusedSimpArgs false
set_option linter.unusedVariables false
set_option maxRecDepth 100000
namespace Go.Proofs.YtplcndmdkabmeaaGreatDoor
open Go.RowKit
def qA (is:List Ins):Nat→Ins:=fun k=>is.getD k (Qn 0)
def yh (v f:Int) (is:List Ins):Int:=zl ⟨v,f,none,is.length,0⟩ (qA is)
def qT (l:Byt):Option ((Int × Int) × List Ins) × Int × Int:=
 if 4000<l.length then (none,0,2) else match jw l with
  | .error n=>(none,(n:Int),1)
  | .ok (h,is)=>if yh h.1 h.2 is=0 then (some (h,is),0,0) else (none,0,yh h.1 h.2 is)
structure zbh (w:World) (p:Pg) (is:List Ins):Prop where
 n:p.n=is.length
 m:p.n≤5000
 at' : qc w p (qA is)
theorem zbh.grow {w w' : World}{p:Pg}{is:List Ins}(h:zbh w p is) (hb:Below w.heap.size w w'):zbh w' p is:=⟨h.n,h.m,h.at'.grow hb⟩
abbrev X7:Pg:=⟨0,0,none,0,0⟩
theorem zbh.zero (w:World):zbh w X7 []:=⟨rfl,by decide,0,0,fun h=>absurd h (by decide),fun k hk=>absurd hk (Nat.not_lt_zero k)⟩
theorem zcb:∀ (is:List Ins) (k j:Nat),k<is.length→j<6→(is.flatMap Ins.cells)[k*6+j]? = (qA is k).cells[j]?
 | [],k,j,h,_=>absurd h (Nat.not_lt_zero k)
 | i::is,0,j,_,hj=>by
  rw[List.flatMap_cons,List.getElem?_append_left (by simp;omega),Nat.zero_mul,Nat.zero_add];rfl
 | i::is,k+1,j,h,hj=>by
  rw[List.flatMap_cons,List.getElem?_append_right (by simp;omega)]
  rw[show (k+1)*6+j - i.cells.length=k*6+j by simp;omega]
  have:=zcb is k j (by simpa using h) hj
  rw[this];rfl
theorem zM.code {w:World}{B:Nat}{v f:Int}{p:Option Addr}{cap:Nat}{R:List zj}{is:List Ins}(h:zM 86 6 p is.length cap (is.flatMap Ins.cells) R) (ho:Own B w R):qc w ⟨v,f,p,is.length,cap⟩ (qA is):=by
 obtain⟨h1,h2⟩:=h
 rcases h2 with⟨h3,h4,_⟩|⟨g,cs,hp,hR,h3,h4,hcs,htk⟩
 ·exact⟨0,0,fun h=>absurd h (by show ¬ 0<is.length;omega),fun k hk=>absurd hk (by show ¬ k<is.length;omega)⟩
 ·subst hR
  have hg:=(ho.at' _ List.mem_cons_self).2
  refine⟨g,0,fun _=>hp,fun k hk=>⟨zL hg,fun j u hj=>?_⟩⟩
  have hk' : k<is.length:=hk
  have hj6:j<6:=by
   have:=(List.getElem?_eq_some_iff.1 hj).1
   simpa using this
  have h5:=zcb is k j hk' hj6
  rw[hj,← htk,List.getElem?_take]at h5
  split at h5
  ·rw[Nat.zero_add]
   simp[World.cell?,hg,h5]
  ·cases h5
set_option maxHeartbeats 1600000
theorem Vi:Qx Tryz.prog 86 48:=⟨by kernel_rfl⟩
def jD (w:World) (l:Byt) (e:Ending) (w' : World):Prop:=
 ∃ (p:Pg) (is:List Ins),e=.returned (.tuple #[p.v,.int .i64 (qT l).2.1,.int .i64 (qT l).2.2])∧zbh w' p is∧Below w.heap.size w w'∧
  ((qT l).1=none→p=X7∧is=[])∧(∀ h js,(qT l).1=some (h,js)→p.vars=h.1∧p.fields=h.2∧is=js)
theorem jD.bad {w w' : World}{l:Byt}{n k:Int}(h:qT l=(none,n,k)) (hb:Below w.heap.size w w'):jD w l (.returned (.tuple #[X7.v,.int .i64 n,.int .i64 k])) w':=
 ⟨X7,[],by rw[h],zbh.zero w',hb,fun _=>⟨rfl,rfl⟩,fun g js hs=>by rw[h]at hs;cases hs⟩
def zee:Value→ByteArray
 | .string b=>b
 | _=>⟨#[]⟩
def Qj (l rest:Byt) (n:Nat) (v f:Int) (done:List Ins):Prop:=
 (n=1∧rest=l∧v=0∧f=0∧done=[])∨(2≤n∧jw l=match Qp n (zE 10 rest) with|.ok is=>.ok ((v,f),done++is)|.error m=>.error m)
theorem Qj.first {l line rest:Byt}{v f:Int}(hp:zE 10 l=line::zE 10 rest) (hh:Ju line=some (v,f)):Qj l rest 2 v f []:=by
 refine .inr ⟨Nat.le_refl _,?_⟩
 unfold jw
 rw[hp,Z4,if_neg (jK _ _),hh]
 dsimp only
 cases Qp 2 (zE 10 rest)<;>rfl
theorem zbi {l line rest:Byt}(hp:zE 10 l=line::zE 10 rest) (hh:Ju line=none):jw l=.error 1:=by
 unfold jw
 rw[hp,Z4,if_neg (jK _ _),hh]
theorem G5 {l:Byt}(hp:zE 10 l=[l]):jw l=.error 1:=by
 unfold jw
 rw[hp,Z4,if_pos rfl]
theorem Qj.done {l:Byt}{n:Nat}{v f:Int}{done:List Ins}(h:Qj l [] n v f done) (hn:2≤n):jw l=.ok ((v,f),done):=by
 rcases h with h|⟨_,h⟩
 ·omega
 ·rw[h,zE,Qp,if_pos rfl]
  simp
theorem Qj.uncut {l rest:Byt}{n:Nat}{v f:Int}{done:List Ins}(h:Qj l rest n v f done) (hn:2≤n) (hr:rest≠[]) (hp:zE 10 rest=[rest]):jw l=.error n:=by
 rcases h with h|⟨_,h⟩
 ·omega
 ·rw[h,hp,Qp,if_neg hr]
theorem Qj.none {l rest line rest' : Byt}{n:Nat}{v f:Int}{done:List Ins}(h:Qj l rest n v f done) (hn:2≤n) (hp:zE 10 rest=line::zE 10 rest') (hi:jZ line=none):jw l=.error n:=by
 rcases h with h|⟨_,h⟩
 ·omega
 ·rw[h,hp,Jv (jK _ _),hi]
theorem Qj.some {l rest line rest' : Byt}{n:Nat}{v f:Int}{done:List Ins}{i:Ins}(h:Qj l rest n v f done) (hn:2≤n) (hp:zE 10 rest=line::zE 10 rest') (hi:jZ line=some i):Qj l rest' (n+1) v f (done++[i]):=by
 rcases h with h|⟨_,h⟩
 ·omega
 ·refine .inr ⟨by omega,?_⟩
  rw[h,hp,Jv (jK _ _),hi]
  dsimp only
  cases Qp (n+1) (zE 10 rest')<;>simp
theorem zgI (l:Byt) (hl:l.length≤1000000) (w:World) (hg:yI w):
  Calls Tryz.prog 68 #[yM l] w fun e w'=>∃ v f,e=.returned (.tuple #[.agg #[.int .i64 v,.int .i64 f,.slice none 0 0],.bool (Ju l).isSome])∧(∀ v' f',Ju l=some (v',f')→v=v'∧f=f')∧Below w.heap.size w w':=by
 have h:=zdI ⟨l.toArray⟩ (by show l.toArray.size≤_;simpa using hl) w hg
 simpa using h
theorem zgf (l:Byt) (hl:l.length≤1000000) (w:World) (hg:yI w):
  Calls Tryz.prog 69 #[yM l] w fun e w'=>e=.returned (.tuple #[((jZ l).getD (Qn 0)).v,.bool (jZ l).isSome])∧Below w.heap.size w w':=by
 have h:=zdl ⟨l.toArray⟩ (by show l.toArray.size≤_;simpa using hl) w hg
 simpa using h
theorem G6 {l:Byt}{v f:Int}{is:List Ins}(hl:l.length≤4000) (h:jw l=.ok ((v,f),is)) (hz:yh v f is=0):qT l=(.some ((v,f),is),0,0):=by
 unfold qT;rw[if_neg (by omega),h];dsimp only;rw[if_pos hz]
theorem Xy {l:Byt}{v f:Int}{is:List Ins}(hl:l.length≤4000) (h:jw l=.ok ((v,f),is)) (hz:¬yh v f is=0):qT l=(.none,0,yh v f is):=by
 unfold qT;rw[if_neg (by omega),h];dsimp only;rw[if_neg hz]
theorem j8 {l:Byt}{n:Nat}(hl:l.length≤4000) (h:jw l=.error n):qT l=(.none,(n:Int),1):=by
 unfold qT;rw[if_neg (by omega),h]
theorem KW (s:ByteArray) (w:World) (hg:yI w) (hm:s.size≤9223372036854775807):
  Calls Tryz.prog 33 #[.string s] w fun e w'=>jD w s.data.toList e w':=by
 have hln:s.data.toList.length=s.size:=Array.length_toList
 have HG:=Lib.hid hg
 clear hg
 have hL:=Loc.start w
 go_enter Tryz.func33,Tryz.ntmps33
 by_cases hbig:4000<s.size
 ·have HB:=Lib.hid (show qT s.data.toList=(none,0,2) by unfold qT;rw[if_pos (by omega)])
  have hd:decide (4000<(s.size:Int))=true:=by simp;omega
  go_wp2_with (first|(with_reducible first|(refine lal hL ?_;clear hL;intro bl w1 hL)|(refine zd hL ?_;clear hL;intro w1 hL)))
  refine rt3 ?_
  exact jD.bad HB.out hL.below
 have hd:decide (4000<(s.size:Int))=false:=by simp;omega
 have hl:s.data.toList.length≤4000:=by omega
 go_upto_region 3 with(first|((with_reducible refine lal hL ?_);clear hL;intro b2 w1 hL))
 clear hd
 go_wp2_with (first|((with_reducible refine lal hL ?_);clear hL;intro b5 w1 hL))
 go_loopw [0,6] (fun c0 c6 wr=>∃ (rest:ByteArray) (n:Nat) (v f:Int) (done:List Ins) (pc:Option Addr) (cap:Nat) (R:List zj),c0=.string rest∧c6=.int .i64 n∧1≤n∧n+rest.size≤s.size+1∧done.length≤n∧Qj s.data.toList rest.data.toList n v f done∧zM 86 6 pc done.length cap (done.flatMap Ins.cells) R∧Loc w wr ([(b5,27,[.int .i64 v,.int .i64 f,.slice pc done.length cap]),(b2,27,[.int .i64 0,.int .i64 0,.slice none 0 0])]++R) []) (fun c0 _ _=>(zee c0).size)
 case atStart=>exact⟨s,1,0,0,[],none,0,[],rfl,rfl,Nat.le_refl _,by omega,Nat.zero_le _,.inl ⟨rfl,rfl,rfl,rfl,rfl⟩,zM.nil,hL⟩
 case round=>
  clear hL
  obtain⟨rest,n,v,f,done,pc,cap,R,rfl,rfl,hn1,hnr,hdn,hat,hR,hL⟩:=hrel
  simp only[List.cons_append,List.nil_append]at hL
  have hrl:rest.data.toList.length=rest.size:=Array.length_toList
  have HAT:=Lib.hid hat
  have HR:=Lib.hid hR
  have HC:=Lib.hid (fun w' (hb' : Below w.heap.size w w')=>zg0 rest 10 (by omega) w' (HG.out.grow hb'))
  have hcp:=zbx 10 rest.data.toList
  generalize Lib.cut rest.data.toList [10]=ct at HC hcp
  obtain⟨line,rst,found⟩:=ct
  clear hat hR
  dsimp only at HC hcp
  rcases Nat.lt_or_ge n 2 with h1|h2
  ·obtain rfl:n=1:=by omega
   have e1:((1:Nat):Int)=1:=rfl
   simp only[e1]
   obtain⟨hrl2,rfl,rfl,rfl⟩:rest.data.toList=s.data.toList∧v=0∧f=0∧done=[]:=by
    rcases HAT.out with⟨_,h3,h4,h5,h6⟩|⟨h3,_⟩
    ·exact⟨h3,h4,h5,h6⟩
    ·omega
   clear e1 h1 hn1
   rcases hcp with⟨rfl,hp,-⟩|⟨rfl,hp,hlen⟩
   ·have HB:=Lib.hid (j8 hl (G5 (by rw[← hrl2];exact hp)))
    clear hp
    go_wp2_with (first|(go_at_call 67;refine(HC.out _ hL.below).mono ?_;rintro e w1 ⟨rfl,hb⟩;replace hL:=hL.grow hb;clear hb;dsimp only)|(with_reducible refine zd hL ?_;clear hL;intro w1 hL))
    refine rt3 ?_
    exact jD.bad HB.out hL.below
   ·have HH:=Lib.hid (fun w' (hb' : Below w.heap.size w w')=>zgI line (by omega) w' (HG.out.grow hb'))
    have HP:=Lib.hid hp
    clear hp
    cases hh:Ju line with
    | none=>
     rw[hh]at HH
     have HB:=Lib.hid (j8 hl (zbi (by rw[← hrl2];exact HP.out) hh))
     clear hh
     go_wp2_with (first|(go_at_call 67;refine(HC.out _ hL.below).mono ?_;rintro e w1 ⟨rfl,hb⟩;replace hL:=hL.grow hb;clear hb;dsimp only)|(go_at_call 68;refine(HH.out _ hL.below).mono ?_;rintro e w3 ⟨v1,f1,rfl,-,hb⟩;replace hL:=hL.grow hb;clear hb;dsimp only[Option.isSome_none])|(with_reducible refine zd hL ?_;clear hL;intro w1 hL))
     refine rt3 ?_
     exact jD.bad HB.out hL.below
    | some vf=>
     obtain⟨v2,f2⟩:=vf
     rw[hh]at HH
     have HA:=Lib.hid (Qj.first (l:=s.data.toList) (v:=v2) (f:=f2) (rest:=rst) (by rw[← hrl2];exact HP.out) hh)
     clear hh
     go_wp2_with (first|(go_at_call 67;refine(HC.out _ hL.below).mono ?_;rintro e w1 ⟨rfl,hb⟩;replace hL:=hL.grow hb;clear hb;dsimp only)|(go_at_call 68;refine(HH.out _ hL.below).mono ?_;rintro e w3 ⟨v1,f1,rfl,hv,hb⟩;obtain⟨rfl,rfl⟩:=hv _ _ rfl;clear hv;replace hL:=hL.grow hb;clear hb;dsimp only[Option.isSome_some])|(with_reducible refine zd hL ?_;clear hL;intro w1 hL))
     go_roundw
     case rel=>exact⟨⟨rst.toArray⟩,2,v1,f1,[],none,0,[],rfl,rfl,by decide,(by show 2+rst.toArray.size≤_;simp only[List.size_toArray];omega),by decide,HA.out,zM.nil,hL.drop (List.sublist_append_left [_,_] R) (fun _ h=>h)⟩
     case measure=>simp only[zee];show rst.toArray.size<_;simp only[List.size_toArray];omega
  ·have hnb:((n:Int)==1)=false:=by rw[beq_eq_false_iff_ne];omega
   by_cases hre:rest.data.toList=[]
   ·have hie:rest.toList.isEmpty=true:=by rw[Lib.toList_data,hre];rfl
    have HOK:=Lib.hid (Qj.done (by rw[← hre];exact HAT.out) h2)
    have HCK:=Lib.hid (fun w' (hc:qc w' ⟨v,f,pc,done.length,cap⟩ (qA done))=>YH ⟨v,f,pc,done.length,cap⟩ (qA done) w' hc (by show done.length≤_;omega))
    rw[show zl ⟨v,f,pc,done.length,cap⟩ (qA done)=yh v f done from rfl]at HCK
    clear hcp hre HC
    by_cases hz:yh v f done=0
    ·have HB:=Lib.hid (G6 hl HOK.out hz)
     rw[hz]at HCK
     clear hz
     go_wp2_with (first|(go_at_call 43;refine(HCK.out _ (HR.out.code (hL.ownOf (List.sublist_append_right [_,_] R)))).mono ?_;rintro e w1 ⟨rfl,hb⟩;replace hL:=hL.grow hb;clear hb;dsimp only)|(with_reducible first|refine lld hL ?_|(refine zd hL ?_;clear hL;intro w1 hL)))
     refine rt3 ?_
     exact⟨⟨v,f,pc,done.length,cap⟩,done,by rw[HB.out];rfl,⟨rfl,by show done.length≤_;omega,HR.out.code (hL.ownOf (List.sublist_append_right [_,_] R))⟩,hL.below,fun h=>(by rw[HB.out]at h;cases h),fun g js h=>(by rw[HB.out]at h;cases h;exact⟨rfl,rfl,rfl⟩)⟩
    ·have HB:=Lib.hid (Xy hl HOK.out hz)
     have hzb:(yh v f done != 0)=true:=by simpa using hz
     generalize yh v f done=ck at HB HCK hzb
     clear hz
     go_wp2_with (first|(go_at_call 43;refine(HCK.out _ (HR.out.code (hL.ownOf (List.sublist_append_right [_,_] R)))).mono ?_;rintro e w1 ⟨rfl,hb⟩;replace hL:=hL.grow hb;clear hb;dsimp only)|(with_reducible first|refine lld hL ?_|(refine zd hL ?_;clear hL;intro w1 hL)))
     refine rt3 ?_
     exact jD.bad HB.out hL.below
   ·have hie:rest.toList.isEmpty=false:=by rw[Lib.toList_data];simpa using hre
    have HRE:=Lib.hid hre
    clear hre
    rcases hcp with⟨rfl,hp,-⟩|⟨rfl,hp,hlen⟩
    ·have HB:=Lib.hid (j8 hl (HAT.out.uncut h2 HRE.out hp))
     clear hp
     go_wp2_with (first|(go_at_call 67;refine(HC.out _ hL.below).mono ?_;rintro e w1 ⟨rfl,hb⟩;replace hL:=hL.grow hb;clear hb;dsimp only)|(with_reducible refine zd hL ?_;clear hL;intro w1 hL))
     refine rt3 ?_
     exact jD.bad HB.out hL.below
    ·have HI:=Lib.hid (fun w' (hb' : Below w.heap.size w w')=>zgf line (by omega) w' (HG.out.grow hb'))
     have HP:=Lib.hid hp
     clear hp
     cases hh:jZ line with
     | none=>
      rw[hh]at HI
      have HB:=Lib.hid (j8 hl (HAT.out.none h2 HP.out hh))
      clear hh
      go_wp2_with (first|(go_at_call 67;refine(HC.out _ hL.below).mono ?_;rintro e w1 ⟨rfl,hb⟩;replace hL:=hL.grow hb;clear hb;dsimp only)|(go_at_call 69;refine(HI.out _ hL.below).mono ?_;rintro e w3 ⟨rfl,hb⟩;replace hL:=hL.grow hb;clear hb;dsimp only[Option.isSome_none,Option.getD_none])|(((with_reducible refine lal hL ?_);clear hL;intro bi w1 hL))|(refine zz (z:=[.int .i64 0,.int .i64 0,.int .i64 0,.int .i64 0,.int .i64 0,.int .i64 0]) (K:=_::_::_::_::[]) (R:=R) (news:=(Qn 0).cells) HR.out hL rfl rfl rfl Ys Vi (by decide) rfl (fun _=>⟨⟨bl,0,none⟩,rfl,fun j u hj=>by rw[zH,Nat.zero_add];exact zF (hL.heap cIn) j hj⟩) rfl (by simp[Value.oneCell']) (by have:maxLen=9223372036854775807:=rfl;omega) (by omega) ?_;clear hL;intro p5 cap5 R5 w5 hS5 hL;simp only[List.cons_append,List.nil_append]at hL)|(with_reducible first|refine lld hL ?_|(refine lbs hL ?_;clear hL;intro bl w1 hL)|(refine zd hL ?_;clear hL;intro w1 hL)))
      refine rt3 ?_
      exact jD.bad HB.out hL.below
     | some i=>
      rw[hh]at HI
      have HA:=Lib.hid (HAT.out.some h2 HP.out hh)
      clear hh
      go_wp2_with (first|(go_at_call 67;refine(HC.out _ hL.below).mono ?_;rintro e w1 ⟨rfl,hb⟩;replace hL:=hL.grow hb;clear hb;dsimp only)|(go_at_call 69;refine(HI.out _ hL.below).mono ?_;rintro e w3 ⟨rfl,hb⟩;replace hL:=hL.grow hb;clear hb;dsimp only[Option.isSome_some,Option.getD_some])|(((with_reducible refine lal hL ?_);clear hL;intro bi w1 hL))|(refine zz (z:=[.int .i64 0,.int .i64 0,.int .i64 0,.int .i64 0,.int .i64 0,.int .i64 0]) (K:=_::_::_::_::[]) (R:=R) (news:=i.cells) HR.out hL rfl rfl rfl Ys Vi (by decide) rfl (fun _=>⟨⟨bl,0,none⟩,rfl,fun j u hj=>by rw[zH,Nat.zero_add];exact zF (hL.heap cIn) j hj⟩) rfl (by simp[Value.oneCell']) (by have:maxLen=9223372036854775807:=rfl;omega) (by omega) ?_;clear hL;intro p5 cap5 R5 w5 hS5 hL;have HS5:=Lib.hid hS5;clear hS5;simp only[List.cons_append,List.nil_append]at hL)|(with_reducible first|refine lld hL ?_|(refine lbs hL ?_;clear hL;intro bl w1 hL)|(refine zd hL ?_;clear hL;intro w1 hL)))
      go_roundw
      case rel=>exact⟨⟨rst.toArray⟩,n+1,v,f,done++[i],p5,cap5,R5,rfl,by go_num,by omega,(by show n+1+rst.toArray.size≤_;simp only[List.size_toArray];omega),(by simp;omega),HA.out,(by rw[List.flatMap_append,List.length_append];simpa using HS5.out),(by rw[List.length_append];exact hL.drop (.cons _ (.cons _ (List.Sublist.refl _))) (fun _ h=>h))⟩
      case measure=>simp only[zee];show rst.toArray.size<_;simp only[List.size_toArray];omega
end Go.Proofs.YtplcndmdkabmeaaGreatDoor
