/- The walks over picture.ready, picture.Check. Conditions: what they read lies in memory that was there. -/
import Derived.Test.YtplcndmdkabmeaaGreatDoorCod
import Derived.Test.YtplcndmdkabmeaaGreatDoorGue
import Derived.Test.YtplcndmdkabmeaaGreatDoorVal
import Derived.Deep.CutBlock
import Derived.Test.YtplcndmdkabmeaaGreatDoorGua
set_option linter.unusedSimpArgs false
set_option linter.unusedVariables false
set_option maxRecDepth 100000
set_option maxHeartbeats 2000000
namespace Go.Proofs.YtplcndmdkabmeaaGreatDoor
open Go.Proofs.Tryz
open Go.RowKit
structure Gi (P:Program) (K:FuncId) (cs:List Value) (w:World) (n:Nat) (f:Nat->Value) (q:Nat->Bool):Prop where
 enter:∀ args w,(callFunc K args).run P w=.ok (.enter K args) w
 run:∀ k,k<n->∀ w',Below w.heap.size w w'->Calls P K (f k::cs).toArray w' fun e w''=>e=.returned (.bool (q k))∧Below w'.heap.size w' w''
def qT (a b:Nat) (q:Nat->Bool):Bool:=a==b && !qa (fun k=>!q k) a
theorem Jc {a b:Nat}{q:Nat->Bool}(h:a≠b):qT a b q=false:=by simp[qT,h]
theorem Ul {a b:Nat}{q:Nat->Bool}{k:Nat}(h:k<a) (g:q k=false):qT a b q=false:=by
 simp[qT,qg (q:=fun k=>!q k) h (by simp[g])]
theorem Jd {a:Nat}{q:Nat->Bool}(h:∀ k,k<a->q k=true):qT a a q=true:=by
 unfold qT;rw[qu (q:=fun k=>!q k) (fun k g=>by rw[h k g];rfl)];simp
abbrev Sl.row (s:Sl):List Value:=[.slice s.p s.n s.cap]
theorem KQ {w:World}{b o k:Nat}{s:Sl}(hb:b<w.heap.size) (h:∀ g v,(s.row)[g]? = some v->w.cell? ⟨b,o+k*1+g,none⟩=some v):zd prog 51 w b (o+k) s.v:=by
 have:=zd.cell (P:=prog) jZ hb (h 0 _ rfl);rwa [Nat.mul_one,Nat.add_zero]at this
theorem zeB (p:Option Addr) (n cap:Nat) (f:Nat->Value) (q:Nat->Bool) (K:FuncId) (T:Value) (w:World) (hn:n<=9223372036854775807) (ac:jG prog 51 1 w p n f) (hf:Gi prog K [T] w n f q):
  Calls prog 184 #[.slice p n cap,.func (.func K) #[] #[T]] w fun e aj=>∃ r:Int,e=.returned (.int .i64 r)∧decide (0<=r)=qa q n∧Below w.heap.size w aj:=by
 obtain⟨b,o,ad,aa⟩:=ac.ex;have ah:=za ad;have af:=za aa;have ag:=za hf.run;have al:=hf.enter;clear ad aa ac hf;have J:=Loc.start w;go_enter func184,ntmps184;go_wp2;go_loopw [8] (fun x wr=>∃ k:Nat,k<=n∧x=.int .i64 k∧(∀ g,g<k->q g=false)∧Loc w wr [] []) (fun x _=>n - (intOf x).toNat)
 case atStart=>exact⟨0,Nat.zero_le _,rfl,fun g ab=>absurd ab (by omega),J⟩
 case round=>
  obtain⟨k,an,rfl,ae,J⟩:=hrel;have P:=za ae;clear ae;by_cases C:k<n
  ·have I:=za (ah.out (by omega))
   have R:=za (by have U:=af.out k C;rw[Nat.mul_one]at U;exact U);have i:=ag.out k C;cases j:q k with
   | true=>
    rw[j]at i;have t:=za i;have HA:=za (qg C j);clear i j;go_upto_region 4 with(fail)
    refine zx [11,12,13,14,15,16] ?_
    iterate 3 refine qdv ?_
    refine qdx I.out ?_;refine qdl R.out ?_;refine qdk J (fun _ ai J=>t.out _ J.below) ?_;refine dns J ?_;clear J;intro ak J;simp only[zr,sTa,sTb];go_wp2;go_ret;exact⟨_,rfl,by rw[HA.out];simp,J.below⟩
   | false=>
    rw[j]at i;have t:=za i;have HA:=za j;clear i j;go_upto_region 4 with(fail)
    refine zx [11,12,13,14,15,16] ?_
    iterate 3 refine qdv ?_
    refine qdx I.out ?_;refine qdl R.out ?_;refine qdk J (fun _ ai J=>t.out _ J.below) ?_;refine dns J ?_;clear J;intro ak J;simp only[zr,sTa,sTb];go_wp2;go_roundw
    case rel=>
     refine⟨k+1,by omega,by go_num,fun g ab=>?_,J⟩;rcases Nat.lt_or_ge g k with h|h
     ·exact P.out g h
     ·obtain rfl:g=k:=by omega
      exact HA.out
    case measure=>simp[intOf];omega
  ·obtain rfl:k=n:=by omega
   go_wp2;go_ret;exact⟨_,rfl,by rw[qu P.out];rfl,J.below⟩
theorem G4 (p:Option Addr) (n cap:Nat) (f:Nat->Value) (q:Nat->Bool) (K:FuncId) (g:Value) (w:World) (hn:n<=9223372036854775807) (i:jG prog 51 1 w p n f) (hf:Gi prog K [g] w n f q):
  Calls prog 142 #[.slice p n cap,.func (.func K) #[] #[g]] w fun e C=>e=.returned (.bool (qa q n))∧Below w.heap.size w C:=by
 have j:=za (zeB p n cap f q K g w hn i hf);clear i hf;go_enter func142,ntmps142;go_wp2_with (go_at_call 184;refine j.out.mono ?_;rintro e I ⟨r,rfl,t,o⟩;dsimp only);go_ret;exact⟨by rw[<- t];rfl,o⟩
theorem G5 (p:Option Addr) (n cap:Nat) (f:Nat->Value) (q:Nat->Bool) (K:FuncId) (w:World) (hn:n<=9223372036854775807) (aa:jG prog 108 7 w p n f) (hf:Gi prog K [] w n f q):
  Calls prog 188 #[.slice p n cap,.func (.func K) #[] #[]] w fun e ah=>∃ r:Int,e=.returned (.int .i64 r)∧decide (0<=r)=qa q n∧Below w.heap.size w ah:=by
 obtain⟨b,o,ab,T⟩:=aa.ex;have af:=za ab;have ad:=za T;have ae:=za hf.run;have aj:=hf.enter;clear ab T aa hf;have J:=Loc.start w;go_enter func188,ntmps188;go_wp2;go_loopw [8] (fun x wr=>∃ k:Nat,k<=n∧x=.int .i64 k∧(∀ g,g<k->q g=false)∧Loc w wr [] []) (fun x _=>n - (intOf x).toNat)
 case atStart=>exact⟨0,Nat.zero_le _,rfl,fun g U=>absurd U (by omega),J⟩
 case round=>
  obtain⟨k,ak,rfl,ac,J⟩:=hrel;have P:=za ac;clear ac;by_cases C:k<n
  ·have I:=za (af.out (by omega))
   have R:=za (ad.out k C);have i:=ae.out k C;cases j:q k with
   | true=>
    rw[j]at i;have t:=za i;have HA:=za (qg C j);clear i j;go_upto_region 4 with(fail)
    refine zx [11,12,13,14,15,16] ?_
    iterate 3 refine qdv ?_
    refine qdx I.out ?_;refine qdl R.out ?_;refine qdk J (fun _ ag J=>t.out _ J.below) ?_;refine dns J ?_;clear J;intro ai J;simp only[zr,sTa,sTb];go_wp2;go_ret;exact⟨_,rfl,by rw[HA.out];simp,J.below⟩
   | false=>
    rw[j]at i;have t:=za i;have HA:=za j;clear i j;go_upto_region 4 with(fail)
    refine zx [11,12,13,14,15,16] ?_
    iterate 3 refine qdv ?_
    refine qdx I.out ?_;refine qdl R.out ?_;refine qdk J (fun _ ag J=>t.out _ J.below) ?_;refine dns J ?_;clear J;intro ai J;simp only[zr,sTa,sTb];go_wp2;go_roundw
    case rel=>
     refine⟨k+1,by omega,by go_num,fun g U=>?_,J⟩;rcases Nat.lt_or_ge g k with h|h
     ·exact P.out g h
     ·obtain rfl:g=k:=by omega
      exact HA.out
    case measure=>simp[intOf];omega
  ·obtain rfl:k=n:=by omega
   go_wp2;go_ret;exact⟨_,rfl,by rw[qu P.out];rfl,J.below⟩
theorem UY (p:Option Addr) (n cap:Nat) (f:Nat->Value) (q:Nat->Bool) (K:FuncId) (w:World) (hn:n<=9223372036854775807) (g:jG prog 108 7 w p n f) (hf:Gi prog K [] w n f q):
  Calls prog 145 #[.slice p n cap,.func (.func K) #[] #[]] w fun e t=>e=.returned (.bool (qa q n))∧Below w.heap.size w t:=by
 have i:=za (G5 p n cap f q K  w hn g hf);clear g hf;go_enter func145,ntmps145;go_wp2_with (go_at_call 188;refine i.out.mono ?_;rintro e C ⟨r,rfl,o,j⟩;dsimp only);go_ret;exact⟨by rw[<- o];rfl,j⟩
theorem G6 (p:Option Addr) (n cap:Nat) (f:Nat->Value) (q:Nat->Bool) (K:FuncId) (T U:Value) (w:World) (hn:n<=9223372036854775807) (ac:jG prog 79 2 w p n f) (hf:Gi prog K [T,U] w n f q):
  Calls prog 178 #[.slice p n cap,.func (.func K) #[] #[T,U]] w fun e aj=>∃ r:Int,e=.returned (.int .i64 r)∧decide (0<=r)=qa q n∧Below w.heap.size w aj:=by
 obtain⟨b,o,ad,aa⟩:=ac.ex;have ah:=za ad;have af:=za aa;have ag:=za hf.run;have al:=hf.enter;clear ad aa ac hf;have J:=Loc.start w;go_enter func178,ntmps178;go_wp2;go_loopw [8] (fun x wr=>∃ k:Nat,k<=n∧x=.int .i64 k∧(∀ g,g<k->q g=false)∧Loc w wr [] []) (fun x _=>n - (intOf x).toNat)
 case atStart=>exact⟨0,Nat.zero_le _,rfl,fun g ab=>absurd ab (by omega),J⟩
 case round=>
  obtain⟨k,an,rfl,ae,J⟩:=hrel;have P:=za ae;clear ae;by_cases C:k<n
  ·have I:=za (ah.out (by omega))
   have R:=za (af.out k C);have i:=ag.out k C;cases j:q k with
   | true=>
    rw[j]at i;have t:=za i;have HA:=za (qg C j);clear i j;go_upto_region 4 with(fail)
    refine zx [11,12,13,14,15,16] ?_
    iterate 3 refine qdv ?_
    refine qdx I.out ?_;refine qdl R.out ?_;refine qdk J (fun _ ai J=>t.out _ J.below) ?_;refine dns J ?_;clear J;intro ak J;simp only[zr,sTa,sTb];go_wp2;go_ret;exact⟨_,rfl,by rw[HA.out];simp,J.below⟩
   | false=>
    rw[j]at i;have t:=za i;have HA:=za j;clear i j;go_upto_region 4 with(fail)
    refine zx [11,12,13,14,15,16] ?_
    iterate 3 refine qdv ?_
    refine qdx I.out ?_;refine qdl R.out ?_;refine qdk J (fun _ ai J=>t.out _ J.below) ?_;refine dns J ?_;clear J;intro ak J;simp only[zr,sTa,sTb];go_wp2;go_roundw
    case rel=>
     refine⟨k+1,by omega,by go_num,fun g ab=>?_,J⟩;rcases Nat.lt_or_ge g k with h|h
     ·exact P.out g h
     ·obtain rfl:g=k:=by omega
      exact HA.out
    case measure=>simp[intOf];omega
  ·obtain rfl:k=n:=by omega
   go_wp2;go_ret;exact⟨_,rfl,by rw[qu P.out];rfl,J.below⟩
theorem UZ (p:Option Addr) (n cap:Nat) (f:Nat->Value) (q:Nat->Bool) (K:FuncId) (g i:Value) (w:World) (hn:n<=9223372036854775807) (j:jG prog 79 2 w p n f) (hf:Gi prog K [g,i] w n f q):
  Calls prog 125 #[.slice p n cap,.func (.func K) #[] #[g,i]] w fun e I=>e=.returned (.bool (qa q n))∧Below w.heap.size w I:=by
 have o:=za (G6 p n cap f q K g i w hn j hf);clear j hf;go_enter func125,ntmps125;go_wp2_with (go_at_call 178;refine o.out.mono ?_;rintro e P ⟨r,rfl,C,t⟩;dsimp only);go_ret;exact⟨by rw[<- C];rfl,t⟩
theorem zhe (s t:Sl) (ab:Nat->Gu) (ae:Nat->Gu) (q:Nat->Bool) (K:FuncId) (w:World) (aE:s.n<=9223372036854775807) (aF:t.n<=9223372036854775807) (U:zZ w 7 s.p s.n (fun k=>(ab k).cells)) (ak:zZ w 7 t.p t.n (fun k=>(ae k).cells))
  (aJ:∀ args w,(callFunc K args).run prog w=.ok (.enter K args) w) (hf:∀ k,k<s.n->k<t.n->∀ T,Below w.heap.size w T->Calls prog K #[(ab k).v,(ae k).v] T fun e aH=>e=.returned (.bool (q k))∧Below T.heap.size T aH):
  Calls prog 149 #[s.v,t.v,.func (.func K) #[] #[]] w fun e T=>e=.returned (.bool (qT s.n t.n q))∧Below w.heap.size w T:=by
 obtain⟨sp,i,aN⟩:=s;obtain⟨aP,an,aO⟩:=t;dsimp only at aE aF U ak hf ⊢;dsimp only[Sl.v];obtain⟨b,o,ad,ac⟩:=U.ex;obtain⟨aI,aM,aw,au⟩:=ak.ex;have az:=za ad;have ao:=za ac;have a0:=za aw;have aq:=za au;have ay:=za hf;clear ad ac aw au U ak hf;have J:=Loc.start w;go_enter func149,ntmps149;by_cases al:i=an
 case neg=>
  have a1:=za (show qT i an q=false from Jc al);have k0:((i:Int) != (an:Int))=true:=by simp;omega
  clear al;go_wp2;refine rt1 ?_;exact⟨by rw[a1.out];rfl,J.below⟩
 subst al;go_wp2;go_loopw [17] (fun x wr=>∃ k:Nat,k<=i∧x=.int .i64 k∧(∀ I,I<k->q I=true)∧Loc w wr [] []) (fun x _=>i - (intOf x).toNat)
 case atStart=>exact⟨0,Nat.zero_le _,rfl,fun I av=>absurd av (by omega),J⟩
 case round=>
  obtain⟨k,aK,rfl,ax,J⟩:=hrel;have ar:=za ax;clear ax;by_cases C:k<i
  ·obtain rfl:=az.out (by omega)
   obtain rfl:=a0.out (by omega);have j:=zd.agg (P:=prog) zO (ao.out k C).1 (ao.out k C).2 rfl;have hr2:=zd.agg (P:=prog) zO (aq.out k C).1 (aq.out k C).2 rfl;have hk2:=ay.out k C C;cases R:q k with
   | false=>
    rw[R]at hk2;have af:=za (show qT i i q=false from Ul C R);clear R;generalize ab k=g at j hk2;generalize ae k=h at hr2 hk2;obtain⟨a5,⟨a7,a6,a4⟩,gt,a3,⟨a8,gk,gc⟩⟩:=g;obtain⟨U,⟨aC,aB,a9⟩,aD,hf,⟨ad,aA,ac⟩⟩:=h
    try dsimp only at j hr2 hk2
    have ah:=za j;have ai:=za hr2;have ag:=za hk2;clear j hr2 hk2;go_wp2_with (first|(with_reducible first|refine lld J ?_|(refine lal J ?_;clear J;intro a2 aa J)|(refine zc J ?_;clear J;intro aa J))|(refine zL ah.out J (by exact yy) rfl ?_)|(refine zL ai.out J (by exact yy) rfl ?_)|((with_reducible refine cg J (ag.out _ J.below) ?_);clear J;intro aa J;dsimp only));refine rt1 ?_;exact⟨by rw[af.out];rfl,J.below⟩
   | true=>
    rw[R]at hk2;have af:=za R;clear R;generalize ab k=g at j hk2;generalize ae k=h at hr2 hk2;obtain⟨a5,⟨a7,a6,a4⟩,gt,a3,⟨a8,gk,gc⟩⟩:=g;obtain⟨U,⟨aC,aB,a9⟩,aD,hf,⟨ad,aA,ac⟩⟩:=h
    try dsimp only at j hr2 hk2
    have ah:=za j;have ai:=za hr2;have ag:=za hk2;clear j hr2 hk2;go_wp2_with (first|(with_reducible first|refine lld J ?_|(refine lal J ?_;clear J;intro a2 aa J)|(refine zc J ?_;clear J;intro aa J))|(refine zL ah.out J (by exact yy) rfl ?_)|(refine zL ai.out J (by exact yy) rfl ?_)|((with_reducible refine cg J (ag.out _ J.below) ?_);clear J;intro aa J;dsimp only));go_roundw
    case rel=>
     refine⟨k+1,by omega,by go_num,fun I av=>?_,J.drop (List.nil_sublist _) (fun _ h=>h)⟩;rcases Nat.lt_or_ge I k with h|h
     ·exact ar.out I h
     ·obtain rfl:I=k:=by omega
      exact af.out
    case measure=>simp[intOf];omega
  ·obtain rfl:k=i:=by omega
   go_wp2;refine rt1 ?_;exact⟨by rw[Jd ar.out];rfl,J.below⟩
theorem zhf (s t:Sl) (aa:Nat->Gu) (ab:Nat->Vl) (q:Nat->Bool) (K:FuncId) (aq:Value) (w:World) (aA:s.n<=9223372036854775807) (aB:t.n<=9223372036854775807) (ah:zZ w 7 s.p s.n (fun k=>(aa k).cells)) (ai:zZ w 2 t.p t.n (fun k=>(ab k).cells))
  (aH:∀ args w,(callFunc K args).run prog w=.ok (.enter K args) w) (hf:∀ k,k<s.n->k<t.n->∀ T,Below w.heap.size w T->Calls prog K #[(aa k).v,(ab k).v,aq] T fun e aE=>e=.returned (.bool (q k))∧Below T.heap.size T aE):
  Calls prog 140 #[s.v,t.v,.func (.func K) #[] #[aq]] w fun e T=>e=.returned (.bool (qT s.n t.n q))∧Below w.heap.size w T:=by
 obtain⟨sp,i,aL⟩:=s;obtain⟨aN,ak,aM⟩:=t;dsimp only at aA aB ah ai hf ⊢;dsimp only[Sl.v];obtain⟨b,o,aw,ar⟩:=ah.ex;obtain⟨aF,aK,ax,au⟩:=ai.ex;have a0:=za aw;have al:=za ar;have a1:=za ax;have an:=za au;have az:=za hf;clear aw ar ax au ah ai hf;have J:=Loc.start w;go_enter func140,ntmps140;by_cases aj:i=ak
 case neg=>
  have a2:=za (show qT i ak q=false from Jc aj);have k0:((i:Int) != (ak:Int))=true:=by simp;omega
  clear aj;go_wp2;refine rt1 ?_;exact⟨by rw[a2.out];rfl,J.below⟩
 subst aj;go_wp2;go_loopw [17] (fun x wr=>∃ k:Nat,k<=i∧x=.int .i64 k∧(∀ I,I<k->q I=true)∧Loc w wr [] []) (fun x _=>i - (intOf x).toNat)
 case atStart=>exact⟨0,Nat.zero_le _,rfl,fun I av=>absurd av (by omega),J⟩
 case round=>
  obtain⟨k,aI,rfl,ay,J⟩:=hrel;have ao:=za ay;clear ay;by_cases C:k<i
  ·obtain rfl:=a0.out (by omega)
   obtain rfl:=a1.out (by omega);have j:=zd.agg (P:=prog) zO (al.out k C).1 (al.out k C).2 rfl;have hr2:=zd.agg (P:=prog) jk (an.out k C).1 (an.out k C).2 rfl;have hk2:=az.out k C C;cases R:q k with
   | false=>
    rw[R]at hk2;have ac:=za (show qT i i q=false from Ul C R);clear R;generalize aa k=g at j hk2;generalize ab k=h at hr2 hk2;obtain⟨a6,⟨a8,a7,a5⟩,gt,a4,⟨a9,gk,gc⟩⟩:=g;obtain⟨aC,aD⟩:=h
    try dsimp only at j hr2 hk2
    have ae:=za j;have af:=za hr2;have ad:=za hk2;clear j hr2 hk2;go_wp2_with (first|(with_reducible first|refine lld J ?_|(refine lal J ?_;clear J;intro a3 U J)|(refine zc J ?_;clear J;intro U J))|(refine zL ae.out J (by exact yy) rfl ?_)|(refine zL af.out J (by exact yy) rfl ?_)|((with_reducible refine cg J (ad.out _ J.below) ?_);clear J;intro U J;dsimp only));refine rt1 ?_;exact⟨by rw[ac.out];rfl,J.below⟩
   | true=>
    rw[R]at hk2;have ac:=za R;clear R;generalize aa k=g at j hk2;generalize ab k=h at hr2 hk2;obtain⟨a6,⟨a8,a7,a5⟩,gt,a4,⟨a9,gk,gc⟩⟩:=g;obtain⟨aC,aD⟩:=h
    try dsimp only at j hr2 hk2
    have ae:=za j;have af:=za hr2;have ad:=za hk2;clear j hr2 hk2;go_wp2_with (first|(with_reducible first|refine lld J ?_|(refine lal J ?_;clear J;intro a3 U J)|(refine zc J ?_;clear J;intro U J))|(refine zL ae.out J (by exact yy) rfl ?_)|(refine zL af.out J (by exact yy) rfl ?_)|((with_reducible refine cg J (ad.out _ J.below) ?_);clear J;intro U J;dsimp only));go_roundw
    case rel=>
     refine⟨k+1,by omega,by go_num,fun I av=>?_,J.drop (List.nil_sublist _) (fun _ h=>h)⟩;rcases Nat.lt_or_ge I k with h|h
     ·exact ao.out I h
     ·obtain rfl:I=k:=by omega
      exact ac.out
    case measure=>simp[intOf];omega
  ·obtain rfl:k=i:=by omega
   go_wp2;refine rt1 ?_;exact⟨by rw[Jd ao.out];rfl,J.below⟩
theorem zhg (s t:Sl) (T:Nat->Sl) (ab:Nat->Sl) (q:Nat->Bool) (K:FuncId) (w:World) (a2:s.n<=9223372036854775807) (a3:t.n<=9223372036854775807) (ah:zZ w 1 s.p s.n (fun k=>(T k).row)) (ai:zZ w 1 t.p t.n (fun k=>(ab k).row))
  (a7:∀ args w,(callFunc K args).run prog w=.ok (.enter K args) w) (hf:∀ k,k<s.n->k<t.n->∀ R,Below w.heap.size w R->Calls prog K #[(T k).v,(ab k).v] R fun e a4=>e=.returned (.bool (q k))∧Below R.heap.size R a4):
  Calls prog 151 #[s.v,t.v,.func (.func K) #[] #[]] w fun e R=>e=.returned (.bool (qT s.n t.n q))∧Below w.heap.size w R:=by
 obtain⟨sp,i,aB⟩:=s;obtain⟨aD,ak,aC⟩:=t;dsimp only at a2 a3 ah ai hf ⊢;dsimp only[Sl.v];obtain⟨b,o,aa,U⟩:=ah.ex;obtain⟨a6,aA,au,aq⟩:=ai.ex;have ax:=za aa;have al:=za U;have ay:=za au;have an:=za aq;have aw:=za hf;clear aa U au aq ah ai hf;have J:=Loc.start w;go_enter func151,ntmps151;by_cases aj:i=ak
 case neg=>
  have az:=za (show qT i ak q=false from Jc aj);have k0:((i:Int) != (ak:Int))=true:=by simp;omega
  clear aj;go_wp2;refine rt1 ?_;exact⟨by rw[az.out];rfl,J.below⟩
 subst aj;go_wp2;go_loopw [17] (fun x wr=>∃ k:Nat,k<=i∧x=.int .i64 k∧(∀ I,I<k->q I=true)∧Loc w wr [] []) (fun x _=>i - (intOf x).toNat)
 case atStart=>exact⟨0,Nat.zero_le _,rfl,fun I ar=>absurd ar (by omega),J⟩
 case round=>
  obtain⟨k,a8,rfl,av,J⟩:=hrel;have ao:=za av;clear av;by_cases C:k<i
  ·obtain rfl:=ax.out (by omega)
   obtain rfl:=ay.out (by omega);have j:=KQ (al.out k C).1 (al.out k C).2;have hr2:=KQ (an.out k C).1 (an.out k C).2;have hk2:=aw.out k C C;cases P:q k with
   | false=>
    rw[P]at hk2;have ac:=za (show qT i i q=false from Ul C P);clear P;generalize T k=g at j hk2;generalize ab k=h at hr2 hk2;obtain⟨a0,gk,gc⟩:=g;obtain⟨aa,a1,U⟩:=h
    try dsimp only at j hr2 hk2
    have ae:=za j;have af:=za hr2;have ad:=za hk2;clear j hr2 hk2;go_wp2_with (first|fail|(refine zL ae.out J (by exact yy) rfl ?_)|(refine zL af.out J (by exact yy) rfl ?_)|((with_reducible refine cg J (ad.out _ J.below) ?_);clear J;intro a5 J;dsimp only));refine rt1 ?_;exact⟨by rw[ac.out];rfl,J.below⟩
   | true=>
    rw[P]at hk2;have ac:=za P;clear P;generalize T k=g at j hk2;generalize ab k=h at hr2 hk2;obtain⟨a0,gk,gc⟩:=g;obtain⟨aa,a1,U⟩:=h
    try dsimp only at j hr2 hk2
    have ae:=za j;have af:=za hr2;have ad:=za hk2;clear j hr2 hk2;go_wp2_with (first|fail|(refine zL ae.out J (by exact yy) rfl ?_)|(refine zL af.out J (by exact yy) rfl ?_)|((with_reducible refine cg J (ad.out _ J.below) ?_);clear J;intro a5 J;dsimp only));go_roundw
    case rel=>
     refine⟨k+1,by omega,by go_num,fun I ar=>?_,J.drop (List.nil_sublist _) (fun _ h=>h)⟩;rcases Nat.lt_or_ge I k with h|h
     ·exact ao.out I h
     ·obtain rfl:I=k:=by omega
      exact ac.out
    case measure=>simp[intOf];omega
  ·obtain rfl:k=i:=by omega
   go_wp2;refine rt1 ?_;exact⟨by rw[Jd ao.out];rfl,J.below⟩
theorem zhh:∀ args w,(callFunc 143 args).run prog w=.ok (.enter 143 args) w:=fun args w=>by kernel_rfl
theorem zhi:∀ args w,(callFunc 146 args).run prog w=.ok (.enter 146 args) w:=fun args w=>by kernel_rfl
theorem zbq (f:Int) (s:Sl) (b:Nat) (w:World) (hn:s.n<=9223372036854775807) (g:zd prog 3 w b 1 (.int .i64 f)):
  Calls prog 143 #[s.v,.pointer (some ⟨b,0,none⟩)] w fun e i=>e=.returned (.bool ((s.n:Int) != f))∧Below w.heap.size w i:=by
 obtain⟨sp,o,j⟩:=s;dsimp only at hn;have J:=Loc.start w;go_enter func143,ntmps143;go_wp2_with (first|fail|(refine zL g J rfl rfl ?_));refine rt1 ?_;exact⟨rfl,J.below⟩
theorem zbr (d:Res) (s:Sl) (j:s.n=d.l.length) (w:World):
  Calls prog 146 #[(d.gu s).v] w fun e i=>e=.returned (.bool (!qD d))∧Below w.heap.size w i:=by
 have g:=za (fun i=>j1 (d.gu s) i);rw[QT j]at g;generalize qD d=x at g ⊢;clear j;obtain⟨P,⟨U,I,C⟩,aa,t,l⟩:=d;obtain⟨sp,R,T⟩:=s;dsimp only[Res.gu]at g ⊢;have J:=Loc.start w;go_enter func146,ntmps146;go_wp2_with (first|(with_reducible first|refine lld J ?_|(refine lbx J ?_;clear J;intro p o J))|(go_at_call 147;refine cg J (g.out _) ?_;clear J;intro o J;dsimp only));refine rt1 ?_;exact⟨rfl,J.below⟩
theorem zeC (s:Sl) (ds:List Res) (w:World) (h:qR w s ds):
  Calls prog 145 #[s.v,.func (.func 146) #[] #[]] w fun e g=>e=.returned (.bool (QF ds))∧Below w.heap.size w g:=by
 obtain⟨j,o,t⟩:=h.ex;have i:=UY s.p s.n s.cap (fun k=>((ds.getD k zo).gu (j k)).v) (fun k=>!qD (ds.getD k zo)) 146 w h.m (o.agg zO (fun k=>rfl)) ⟨zhi,fun k C g _=>zbr (ds.getD k zo) (j k) (t k C).n g⟩;rw[show qa (fun k=>!qD (ds.getD k zo)) s.n=QF ds by rw[h.n];rfl]at i;exact i
theorem Xd (p:Pg) (is:Nat->Ins) (vs:List Res) (g:List (List Res)):zE p is ⟨true,vs,g⟩=if 0<vs.length+g.length then 1 else 0:=if_pos rfl
theorem Xr (p:Pg) (is:Nat->Ins) (i g:Sl) (vs:List Res) (o:List (List Res)) (w:World) (C:i.n=vs.length) (I:g.n=o.length) (R:i.n+g.n<=9223372036854775807):
  Calls prog 98 #[p.v,Pv.v ⟨true,i,g⟩] w fun e T=>e=.returned (.int .i64 (zE p is ⟨true,vs,o⟩))∧Below w.heap.size w T:=by
 rw[Xd,<- C,<- I];obtain⟨ad,j,ac⟩:=i;obtain⟨ab,fn,aa⟩:=g;dsimp only at R ⊢;clear C I;have J:=Loc.start w;go_enter func98,ntmps98;by_cases t:0<j+fn
 ·have k0:decide ((0:Int)<(j:Int)+(fn:Int))=true:=decide_eq_true (by omega)
  rw[if_pos t];go_wp2_with (with_reducible first|refine lld J ?_|(refine lbx J ?_;clear J;intro P U J));refine rt1 ?_;exact⟨rfl,J.below⟩
 ·have k0:decide ((0:Int)<(j:Int)+(fn:Int))=false:=decide_eq_false (by omega)
  rw[if_neg t];go_wp2_with (with_reducible first|refine lld J ?_|(refine lbx J ?_;clear J;intro P U J));refine rt1 ?_;exact⟨rfl,J.below⟩
theorem Loc.rot {w0 w:World}{e:zg}{L:List zg}{D:List zl}(h:Loc w0 w (e::L) D):Loc w0 w (L++[e]) D:=h.perm (List.perm_append_comm (l₁:=L) (l₂:=[e]))
theorem zB.at1 {E g n cap k:Nat}{i:List Value}{p:Option Addr}{l:List Sl}(h:zB E 1 p n cap (l.flatMap Sl.row) [(g,E,i)]) (hk:k<n):i[k]? = some (l.getD k zi).v:=by
 have j:=h.elem (f:=Sl.row) (fun _=>rfl) zi hk;rw[Nat.mul_one]at j;have o:((i.drop k).take 1)[0]? = some (l.getD k zi).v:=by rw[j];rfl
 rw[List.getElem?_take,if_pos (by decide),List.getElem?_drop,Nat.add_zero]at o;exact o
theorem jR {w:World}{p:Option Addr}{n:Nat}{g:Nat->Sl}(h:zZ w 1 p n (fun k=>[.slice (g k).p (g k).n (g k).cap])):jG prog 51 1 w p n (fun k=>(g k).v):=by
 obtain⟨b,C,o,i⟩:=h.ex;refine⟨b,C,o,fun k j=>?_⟩;have t:=zd.cell (P:=prog) jZ (i k j).1 ((i k j).2 0 _ rfl);rwa [Nat.add_zero]at t
theorem zeD {w:World}{p:Option Addr}{n:Nat}{g:Nat->Sl}(h:zZ w 1 p n (fun k=>[.slice (g k).p (g k).n (g k).cap])):0<n->∃ i,p=some i∧∀ j u,(((List.range n).map g).flatMap Sl.row)[j]? = some u->w.cell? (i.add j)=some u:=
 zZ.news (f:=Sl.row) (fun _=>rfl) (d:=zi) (l:=(List.range n).map g) (h.congr fun k o=>by rw[zV _ _ _ _ o]) (by simp)
theorem zis {l:List Sl}:∀ u∈l.flatMap Sl.row,u.oneCell'=true:=by
 intro u i;obtain⟨x,_,g⟩:=List.mem_flatMap.1 i;simp only[Sl.row,List.mem_cons,List.not_mem_nil,or_false]at g;subst g;rfl
theorem zgd {w:World}{j:Sl}{vs:List Res}{g:List (List Res)}{i:Nat->Sl}(hv:qR w j vs) (o:∀ k,k<g.length->qR w (i k) (g.getD k [])) (k:Nat) (hk:k<1+g.length):
  qR w ((j::(List.range g.length).map i).getD k zi) ((vs::g).getD k []):=by
 cases k with
 | zero=>exact hv
 | succ k=>
  have h:=o k (by omega);rw[List.getD_cons_succ,List.getD_cons_succ,zV _ _ _ _ (by omega)];exact h
theorem Qg (p:Pg) (is:Nat->Ins) (vs:List Res) (g:List (List Res)):zE p is ⟨false,vs,g⟩=if Q5 p ⟨false,vs,g⟩=true then 1 else if Jt p is (vs::g)≠0 then Jt p is (vs::g) else if Zb p is g=true then 4 else 0:=if_neg (show ¬ (false=true) by decide)
theorem zcT {p:Pg}{is:Nat->Ins}{L:List (List Res)}{k j:Nat}{r:Int}(hk:k<L.length) (h:qr ((L.take k).map (GE p is))=0) (i:qr (((L.getD k []).take j).map (q9 p is))=r) (o:r≠0):Jt p is L=r:=by
 have t:GE p is (L.getD k [])=r:=(Kr (q9 p is) _ (k:=j) (by rw[i];exact o)).trans i;have g:=ZC (GE p is) L [] hk h;rw[t]at g;exact(Kr (GE p is) L (k:=k+1) (by rw[g];exact o)).trans g
theorem Xs (p:Pg) (is:Nat->Ins) (aM aK:Sl) (vs:List Res) (g:List (List Res)) (w:World) (hn:p.n<=60) (hc:zy w p is) (hv:qR w aM vs) (hf:j3 w aK g):
  Calls prog 98 #[p.v,Pv.v ⟨false,aM,aK⟩] w fun e o=>e=.returned (.int .i64 (zE p is ⟨false,vs,g⟩))∧Below w.heap.size w o:=by
 obtain⟨ai,aq,au⟩:=hf.ex;rw[hf.n]at au aq;have aD:=hf.m;have bj:=hv.m;have bd:=hf.n;have bk:=hv.n;have bn:=za (fun k (U:k<1+g.length)=>zgd hv au k U);have aV:=za (fun o (I:Below w.heap.size w o)=>zeD (aq.grow I));have a8:=za (Qg p is vs g);obtain⟨bD,bN,aI,ba⟩:=(jR aq).ex;have aW:=za aI;have bo:=za ba;have bq:=za (fun k (U:k<g.length) o (I:Below w.heap.size w o)=>zeC (ai k) (g.getD k []) o ((au k U).grow I));have aO:=za hc;obtain⟨ab,bQ,aa⟩:=aM;obtain⟨an,fn,al⟩:=aK;dsimp only at aD bj bd bk aq aI;subst bd bk;have a7:=za (fun (b:Nat) (o : World) (I:Below w.heap.size w o) (b3:zd prog 3 o b 1 (.int .i64 p.fields))=>G4 an g.length al (fun k=>(ai k).v) (fun k=>((g.getD k []).length:Int) != p.fields) 143 (.pointer (some ⟨b,0,none⟩)) o aD (jR (aq.grow I)) ⟨zhh,fun k U az b1=>by
  have i:=zbq p.fields (ai k) b az (au k U).m (b3.grow b1);rw[(au k U).n]at i;exact i⟩)
 have bu:=za (And.intro aD bj);have av:=za (show Q5 p ⟨false,vs,g⟩=((vs.length:Int) != p.vars || (g.length:Int) != p.n || qa (fun k=>((g.getD k []).length:Int) != p.fields) g.length) from rfl);clear aI ba aq au hf hv hc;generalize (fun k=>((g.getD k []).length:Int) != p.fields)=q at a7 av;have J:=Loc.start w;go_enter func98,ntmps98;go_step;go_step;go_step
 ((with_reducible refine lbx J ?_);clear J;intro ac af J)
 ((with_reducible refine lbx J ?_);clear J;intro ak af J)
 go_upto_block 0 with(fail)
 go_cut [] from 5 (fun wc=>Loc w wc [(ak,54,[.bool false,.slice ab vs.length aa,.slice an g.length al]),(ac,27,[.int .i64 p.vars,.int .i64 p.fields,.slice p.pc p.n p.cap])] []∧Q5 p ⟨false,vs,g⟩=false)
 case first=>
  go_upto_region 5 with(with_reducible refine lld J ?_)
  refine zx [24,25,26,27,28,29,30,31,32,33,34,35,36,37,38,39,40,41,42,43,44,23] ?_
  iterate 19 refine qda ?_
  refine yu J (fun _ I J=>a7.out ac _ J.below (J.readsG (b:=ac) (Tv:=3) (off:=1) (v:=.int .i64 p.fields) cIn (zn.cell y2 rfl))) ?_
  iterate 2 refine qdv ?_
  refine dns J ?_;clear J;intro az J;simp only[zr,sTa,sTb];simp only[beq_false,Bool.not_or,Bool.not_not];cases i:Q5 p ⟨false,vs,g⟩ with
  | true=>
   have t:=i;rw[av.out]at t;simp only[t];clear t;have ah:=za (a8.out.trans (if_pos i));clear i;go_wp2;refine rt1 ?_;exact⟨by rw[ah.out];rfl,J.below⟩
  | false=>
   have t:=i;rw[av.out]at t;simp only[t];clear t;have bs:=za i;clear i;go_wp2;go_meet
   case rel=>exact⟨J,bs.out⟩
 clear J;obtain⟨J,i⟩:=hcut;have t:=i;rw[av.out]at t;have be:g.length=p.n:=by
  simp at t;omega
 clear t;have a9:=za (a8.out.trans (if_neg (by rw[i];decide)));have aj:=za (And.intro be hn);clear i be hn a8 av a7;go_upto_block 1 with(first|(with_reducible first|refine lld J ?_|(refine lbs J ?_;clear J;intro a1 af J))|(refine zF (z:=[.slice none 0 0]) (E:=51) (K:=[(ak,_,_),(ac,_,_)]) (R:=[(a1,51,[.slice ab vs.length aa])]) (xs:=Sl.row ⟨ab,vs.length,aa⟩) (n:=1) (cap:=1) (p:=some ⟨a1,0,none⟩) (news:=((List.range g.length).map ai).flatMap Sl.row) (zB.full rfl (by decide)) J.rot rfl rfl rfl UK zcG (by decide) rfl (aV.out _ J.below) (by rw[jr (f:=Sl.row) (es:=1) (fun _=>rfl),List.length_map,List.length_range];rfl) zis (by have:=bu.out.1;have:=aj.out.1;have:=aj.out.2;have:maxLen=9223372036854775807:=rfl;omega) (by have:=aj.out.1;have:=aj.out.2;omega) ?_;clear J;intro b6 b0 bx bR aZ J))
 simp only[aX]at J;have aC:zB 51 1 b6 (1+g.length) b0 ((⟨ab,vs.length,aa⟩::(List.range g.length).map ai).flatMap Sl.row) bx:=aZ;clear aZ;obtain⟨a2,aw,rfl,rfl,-,-⟩:=aC.block (by omega);have aN:=za (fun k (U:k<1+g.length)=>aC.at1 U);clear aC aV;go_cut [] from 5 (fun wc=>Loc w wc [(ak,54,[.bool false,.slice ab vs.length aa,.slice an g.length al]),(ac,27,[.int .i64 p.vars,.int .i64 p.fields,.slice p.pc p.n p.cap]),(a2,51,aw)] []∧Jt p is (vs::g)=0)
 case first=>
  have bF:g.length<=60:=by have:=aj.out.1;have:=aj.out.2;omega
  go_wp2;go_loopw [52] (fun c wr=>∃ k:Nat,k<=1+g.length∧c=.int .i64 k∧qr (((vs::g).take k).map (GE p is))=0∧Loc w wr [(ak,54,[.bool false,.slice ab vs.length aa,.slice an g.length al]),(ac,27,[.int .i64 p.vars,.int .i64 p.fields,.slice p.pc p.n p.cap]),(a2,51,aw)] []) (fun c _=>1+g.length - (intOf c).toNat)
  case atStart=>exact⟨0,Nat.zero_le _,rfl,rfl,J⟩
  case round=>
   obtain⟨k,U,rfl,ae,J⟩:=hrel;have ag:=za ae;clear ae;by_cases ad:k<1+g.length
   ·have ar:=bn.out k ad
    have a5:=aN.out k ad;generalize bc:(vs::g).getD k []=C at ar;have aP:=za bc;generalize (({ p:=ab,n:=vs.length,cap:=aa }:Sl)::List.map ai (List.range g.length)).getD k zi=b9 at ar a5;obtain⟨aL,bb,aJ⟩:=ar.ex;obtain⟨bI,bK,aH,aF⟩:=bb.ex;have bf:=ar.n;have b2:=ar.m;obtain⟨b5,bJ,b4⟩:=b9;dsimp only at bf aH aF a5 b2 aJ;subst bf;have aU:=za aH;have aT:=za aF;have bw:=za (show zn prog 51 aw k (.slice b5 C.length b4) from zn.cell jZ a5);have br:=za (fun j ay o (I:Below w.heap.size w o)=>zb5 p is ((C.getD j zo).gu (aL j)) (C.getD j zo).l o (aO.out.grow I) ((aJ j ay).grow I));clear ar bb aJ aH aF a5 bc;go_wp2_with (with_reducible refine ldO bw.out J ?_);go_loopw [58] (fun c wr=>∃ j:Nat,j<=C.length∧c=.int .i64 j∧qr ((C.take j).map (q9 p is))=0∧Loc w wr [(ak,54,[.bool false,.slice ab vs.length aa,.slice an g.length al]),(ac,27,[.int .i64 p.vars,.int .i64 p.fields,.slice p.pc p.n p.cap]),(a2,51,aw)] []) (fun c _=>C.length - (intOf c).toNat)
    case atStart=>exact⟨0,Nat.zero_le _,rfl,rfl,J⟩
    case round=>
     obtain⟨j,ay,rfl,ae,J⟩:=hrel;have aA:=za ae;clear ae;by_cases a6:j<C.length
     ·obtain rfl:=aU.out (by omega)
      clear aU;have T:=zd.agg (P:=prog) zO (aT.out j a6).1 (aT.out j a6).2 rfl;have ao:∀ o,Below w.heap.size w o->Calls prog 144 #[p.v,((C.getD j zo).gu (aL j)).v] o fun e az=>e=.returned (.int .i64 (q9 p is (C.getD j zo)))∧Below o.heap.size o az:=br.out j a6
      have a4:=ZC (q9 p is) C zo a6 aA.out;generalize C.getD j zo=d at T ao a4;generalize aL j=b8 at T ao;generalize q9 p is d=r at ao a4;obtain⟨bM,⟨bA,bL,bG⟩,bP,bE,l⟩:=d;obtain⟨sp,b7,bO⟩:=b8;dsimp only[Res.gu]at T ao;have a0:=za T;have aS:=za ao;have aQ:=za a4;clear T ao a4;by_cases i:r=0
      case neg=>
       have bH:(r != 0)=true:=by simpa using i
       have bl:Jt p is (vs::g)=r:=zcT (k:=k) (j:=j+1) (by simpa [Nat.add_comm] using ad) ag.out (by rw[aP.out];exact aQ.out) i;have ah:=za (show zE p is ⟨false,vs,g⟩=r by rw[a9.out,bl];exact if_pos i);clear i bl;go_wp2_with (first|(with_reducible first|refine ldB a0.out J ?_|refine lld J ?_|(refine lal J ?_;clear J;intro a1 af J)|(refine zc J ?_;clear J;intro af J))|(go_at_call 144;refine cg J (aS.out _ J.below) ?_;clear J;intro af J;dsimp only));refine rt1 ?_;exact⟨by rw[ah.out];rfl,J.below⟩
      subst i;go_wp2_with (first|(with_reducible first|refine ldB a0.out J ?_|refine lld J ?_|(refine lal J ?_;clear J;intro a1 af J)|(refine zc J ?_;clear J;intro af J))|(go_at_call 144;refine cg J (aS.out _ J.below) ?_;clear J;intro af J;dsimp only));go_roundw
      case rel=>exact⟨j+1,by omega,by go_num,aQ.out,J.drop (List.sublist_cons_self _ _) (fun _ h=>h)⟩
      case measure=>simp[intOf];omega
     ·obtain rfl:j=C.length:=by omega
      have bg:GE p is C=0:=by
       have:=aA.out;rwa [List.take_length]at this
      have bv:=za (show qr (((vs::g).take (k+1)).map (GE p is))=0 by rw[ZC (GE p is) (vs::g) [] (by simpa [Nat.add_comm] using ad) ag.out,aP.out];exact bg);clear bg aA;go_wp2;go_roundw
      case rel=>exact⟨k+1,by omega,by go_num,bv.out,J⟩
      case measure=>simp[intOf];omega
   ·obtain rfl:k=1+g.length:=by omega
    have t:Jt p is (vs::g)=0:=by
     have i:=ag.out;rwa [List.take_of_length_le (by simp;omega)]at i
    clear ag;go_wp2;go_meet
    case rel=>exact⟨J,t⟩
 clear J;obtain⟨J,t⟩:=hcut;have aR:=za (a9.out.trans (if_neg (by rw[t];simp)));clear t a9 aN;go_wp2_with (with_reducible refine lld J ?_);go_loopw [73] (fun c wr=>∃ k:Nat,k<=g.length∧c=.int .i64 k∧(∀ j,j<k->(!qh p is j&&QF (g.getD j []))=false)∧Loc w wr [(ak,54,[.bool false,.slice ab vs.length aa,.slice an g.length al]),(ac,27,[.int .i64 p.vars,.int .i64 p.fields,.slice p.pc p.n p.cap]),(a2,51,aw)] []) (fun c _=>g.length - (intOf c).toNat)
 case atStart=>exact⟨0,Nat.zero_le _,rfl,fun j ay=>absurd ay (by omega),J⟩
 case round=>
  obtain⟨k,U,rfl,ae,J⟩:=hrel;have ag:=za ae;clear ae;by_cases ad:k<g.length
  ·obtain rfl:=aW.out (by omega)
   clear aW;have T:=bo.out k ad;rw[Nat.mul_one]at T;have ax:=bq.out k ad;have aE:=fun o (I:Below w.heap.size w o)=>YM p is k o (aO.out.grow I)
   generalize ai k=s at T ax;have aB:=za (fun (h:(!qh p is k&&QF (g.getD k []))=true)=>qg (q:=fun j=>!qh p is j&&QF (g.getD j [])) ad h);generalize bh:qh p is k=bB at aE aB;generalize bi:QF (g.getD k [])=bC at ax aB;have aY:=za (And.intro bh bi);obtain⟨sp,bA,b7⟩:=s;dsimp only[Sl.v]at T ax;have a0:=za T;have bp:=za ax;have bt:=za aE;clear T ax aE bh bi;go_upto_region 21 with(with_reducible refine ldB a0.out J ?_)
   refine zx [78,79,80,81,82,83,84,85] ?_
   iterate 2 refine qdv ?_
   refine qdk J (fun _ I J=>bt.out _ J.below) ?_
   iterate 3 refine qda ?_
   refine yu J (fun _ I J=>bp.out _ J.below) ?_;refine qdv ?_;refine dns J ?_;clear J;intro az J;simp only[zr,sTa,sTb];generalize a3:(!bB&&bC)=bz;cases bz with
   | true=>
    have ah:=za (aR.out.trans (if_pos (aB.out a3)));clear a3;go_wp2;refine rt1 ?_;exact⟨by rw[ah.out];rfl,J.below⟩
   | false=>
    have bm:=za a3;clear a3;go_wp2;go_roundw
    case rel=>
     refine⟨k+1,by omega,by go_num,fun j ay=>?_,J⟩;rcases Nat.lt_or_ge j k with h|h
     ·exact ag.out j h
     ·obtain rfl:j=k:=by omega
      rw[aY.out.1,aY.out.2];exact bm.out
    case measure=>simp[intOf];omega
  ·obtain rfl:k=g.length:=by omega
   have ah:=za (aR.out.trans (if_neg (by rw[show Zb p is g=false from qu ag.out];decide)));go_wp2;refine rt1 ?_;exact⟨by rw[ah.out];rfl,J.below⟩
theorem KR (p:Pg) (is:Nat->Ins) (x:Pv) (d:Pd) (w:World) (hn:p.n<=60) (hc:zy w p is) (R:zq w x d):
  Calls prog 98 #[p.v,x.v] w fun e T=>e=.returned (.int .i64 (zE p is d))∧Below w.heap.size w T:=by
 obtain⟨U,I,C⟩:=x;obtain⟨aa,P,j⟩:=d;obtain⟨o,i,g,t⟩:=R;dsimp only at o i g t;subst o;cases U with
 | true=>exact Xr p is I C P j w i.n g.n t
 | false=>exact Xs p is I C P j w hn hc i g
structure Y1 (w:World) (p:Option Addr) (n:Nat) (xs:Nat->Pv) (ds:Nat->Pd):Prop where
 at' : zZ w 3 p n (fun k=>(xs k).cells)
 pics:∀ k,k<n->zq w (xs k) (ds k)
 m:n<=9223372036854775807
theorem Y1.grow {w w' : World}{p:Option Addr}{n:Nat}{xs:Nat->Pv}{ds:Nat->Pd}(h:Y1 w p n xs ds) (hb:Below w.heap.size w w'):Y1 w' p n xs ds:=⟨h.at'.grow hb,fun k g=>(h.pics k g).grow hb,h.m⟩
def Yc (p:Pg) (is:Nat->Ins) (ds:Nat->Pd) (n:Nat):Int:=Zq (zf p is) (fun k=>zE p is (ds k)) n
theorem Qh (p:Pg) (is:Nat->Ins) (aw:Option Addr) (n cap:Nat) (xs:Nat->Pv) (ds:Nat->Pd) (w:World) (hn:p.n<=9223372036854775807) (hc:zy w p is) (U:Y1 w aw n xs ds):
  Calls prog 58 #[p.v,.slice aw n cap] w fun e i=>e=.returned (.int .i64 (Yc p is ds n))∧Below w.heap.size w i:=by
 obtain⟨b,o,ar,ao⟩:=U.at'.ex;have a4:=U.m;have ak:=za ar;have ah:=za ao;have ai:=za (fun (a0:p.n<=60) k aq i (R:Below w.heap.size w i)=>KR p is (xs k) (ds k) i a0 (hc.grow R) ((U.pics k aq).grow R));have ag:=fun i (R:Below w.heap.size w i)=>jn p is i (hc.grow R) hn
 have t:=za (show Yc p is ds n=Zq (zf p is) (fun k=>zE p is (ds k)) n from rfl);have av:=fun (h:zf p is=0)=>(zp h).1.n1
 have ac:=za av;generalize zf p is=ae at ag t ac;have ab:=za ag;clear ar ao ag hc U av;have J:=Loc.start w;go_enter func58,ntmps58;go_step;go_step;go_step
 ((with_reducible refine lbx J ?_);clear J;intro ay g J)
 by_cases C:ae=0
 case neg=>
  have k0:(ae != 0)=true:=by simpa using C
  have ad:=za (show Yc p is ds n=ae from t.out.trans (JT (k:=0) (Nat.zero_le _) C));clear C;go_wp2_with (first|(with_reducible refine lld J ?_)|(go_at_call 43;refine cg J (ab.out _ J.below) ?_;clear J;intro g J;dsimp only));refine rt1 ?_;exact⟨by rw[ad.out];rfl,J.below⟩
 subst C;have ax:=za (ai.out (ac.out rfl));clear ai ac;go_wp2_with (first|(with_reducible refine lld J ?_)|(go_at_call 43;refine cg J (ab.out _ J.below) ?_;clear J;intro g J;dsimp only));clear ab;go_loopw [16] (fun c wr=>∃ k:Nat,k<=n∧c=.int .i64 k∧Zq 0 (fun k=>zE p is (ds k)) k=0∧Loc w wr [(ay,27,[.int .i64 p.vars,.int .i64 p.fields,.slice p.pc p.n p.cap])] []) (fun c _=>n - (intOf c).toNat)
 case atStart=>exact⟨0,Nat.zero_le _,rfl,rfl,J⟩
 case round=>
  obtain⟨k,aq,rfl,au,J⟩:=hrel;have al:=za au;clear au;by_cases af:k<n
  ·obtain rfl:=ak.out (by omega)
   clear ak;have hr:=zd.agg (P:=prog) Zj (ah.out k af).1 (ah.out k af).2 rfl;have j:=ax.out k af;have T:=Z5 al.out
   try dsimp only at T hr
   generalize a1:zE p is (ds k)=r at j T;generalize xs k=x at hr j;obtain⟨aA,⟨a9,a8,a7⟩,⟨a3,fn,a2⟩⟩:=x
   try dsimp only[Pv.v,Pv.cells]at hr j
   have an:=za hr;have aj:=za j;have aa:=za T;clear hr j T a1;by_cases I:r=0
   case neg=>
    have a5:(r != 0)=true:=by simpa using I
    have ad:=za (show Yc p is ds n=r from t.out.trans ((JT (k:=k+1) (by omega) (by rw[aa.out];exact I)).trans aa.out));clear I;go_wp2_with (first|(with_reducible first|refine ldB an.out J ?_|refine lld J ?_|(refine lal J ?_;clear J;intro az g J)|(refine zc J ?_;clear J;intro g J))|(go_at_call 98;refine cg J (aj.out _ J.below) ?_;clear J;intro g J;dsimp only));refine rt1 ?_;exact⟨by rw[ad.out];rfl,J.below⟩
   subst I;go_wp2_with (first|(with_reducible first|refine ldB an.out J ?_|refine lld J ?_|(refine lal J ?_;clear J;intro az g J)|(refine zc J ?_;clear J;intro g J))|(go_at_call 98;refine cg J (aj.out _ J.below) ?_;clear J;intro g J;dsimp only));go_roundw
   case rel=>exact⟨k+1,by omega,by go_num,aa.out,J.drop (List.sublist_cons_self _ _) (fun _ h=>h)⟩
   case measure=>simp[intOf];omega
  ·obtain rfl:k=n:=by omega
   go_wp2;refine rt1 ?_;exact⟨by rw[t.out,al.out];rfl,J.below⟩
theorem zhu {w:World}{b:Nat}{x:Pv}{d:Pd}(g:w.heap[b]? = some (.cells x.cells.toArray 54 (0,0))) (p:zq w x d):Y1 w (some ⟨b,0,none⟩) 1 (fun _=>x) (fun _=>d):=by
 refine⟨⟨ZS rfl g,b,0,fun _=>rfl,fun k o=>⟨zz g,fun i v j=>?_⟩⟩,fun k o=>p,by decide⟩;obtain rfl:k=0:=by omega
 have e:w.cell? ⟨b,0+0*3+i,none⟩=x.cells[i]? :=by simp[World.cell?,g]
 rw[e];exact j
theorem zdk {w:World}{b:Nat}{x y:Pv}{d e:Pd}(i:w.heap[b]? = some (.cells (x.cells++y.cells).toArray 54 (0,0))) (t:zq w x d) (C:zq w y e):Y1 w (some ⟨b,0,none⟩) 2 (QE x y) (QE d e):=by
 refine⟨⟨ZS rfl i,b,0,fun _=>rfl,fun k p=>⟨zz i,fun g v j=>?_⟩⟩,fun k p=>?_,by decide⟩
 ·rcases (show k=0∨k=1 by omega) with rfl|rfl
  ·have o:g<3:=(List.getElem?_eq_some_iff.1 j).1
   have e:w.cell? ⟨b,0+0*3+g,none⟩=(x.cells++y.cells)[g]? :=by simp[World.cell?,i]
   rw[e,List.getElem?_append_left o];exact j
  ·have e:w.cell? ⟨b,0+1*3+g,none⟩=(x.cells++y.cells)[3+g]? :=by simp[World.cell?,i]
   rw[e,List.getElem?_append_right (by simp)];simpa [QE] using j
 ·rcases (show k=0∨k=1 by omega) with rfl|rfl
  ·exact t
  ·exact C
def cp1 (p:Pg) (is:Nat->Ins) (d:Pd):Int:=Yc p is (fun _=>d) 1
def cp2 (p:Pg) (is:Nat->Ins) (d e:Pd):Int:=Yc p is (QE d e) 2
theorem zbs {p:Pg}{is:Nat->Ins}{d:Pd}(h:cp1 p is d=0):zf p is=0∧zE p is d=0:=by
 have j:Zq (zf p is) (fun _=>zE p is d) 1=0:=h;have i:zf p is=0:=by
  by_cases g:Zq (zf p is) (fun _=>zE p is d) 0=0
  ·exact g
  ·exact absurd ((JT (k:=0) (by omega) g).symm.trans j) g
 exact⟨i,(Z5 (f:=fun _=>zE p is d) (k:=0) i).symm.trans j⟩
theorem Xe {p:Pg}{is:Nat->Ins}{d e:Pd}(hz:cp2 p is d e=0):zf p is=0∧zE p is d=0∧zE p is e=0:=by
 have o:Zq (zf p is) (fun k=>zE p is (QE d e k)) 2=0:=hz;have i:Zq (zf p is) (fun k=>zE p is (QE d e k)) 1=0:=by
  by_cases g:Zq (zf p is) (fun k=>zE p is (QE d e k)) 1=0
  ·exact g
  ·exact absurd ((JT (k:=1) (by omega) g).symm.trans o) g
 have j:zf p is=0:=by
  by_cases g:Zq (zf p is) (fun k=>zE p is (QE d e k)) 0=0
  ·exact g
  ·exact absurd ((JT (k:=0) (by omega) g).symm.trans i) g
 exact⟨j,(Z5 (k:=0) j).symm.trans i,(Z5 (k:=1) i).symm.trans o⟩
theorem Xf (p:Pg) (is:Nat->Ins) (x:Pv) (d:Pd) (w:World) (hn:p.n<=9223372036854775807) (hc:zy w p is) (o:zq w x d):
  Calls prog 51 #[p.v,x.v] w fun e g=>e=.returned (.int .i64 (cp1 p is d))∧Below w.heap.size w g:=by
 have i:=za (fun (b:Nat) (g : World) (j:Below w.heap.size w g) (C:g.heap[b]? = some (.cells x.cells.toArray 54 (0,0)))=>(show Calls prog 58 #[p.v,.slice (some ⟨b,0,none⟩) 1 1] g fun e P=>e=.returned (.int .i64 (cp1 p is d))∧Below g.heap.size g P from Qh p is (some ⟨b,0,none⟩) 1 1 (fun _=>x) (fun _=>d) g hn (hc.grow j) (zhu C (o.grow j))));generalize cp1 p is d=c at i ⊢;clear hc o;have J:=Loc.start w;go_enter func51,ntmps51;go_wp2_with (first|(with_reducible first|refine lld J ?_|((first|refine lbx J ?_|refine lbs J ?_);clear J;intro t I J))|(go_at_call 58;refine cg J (i.out t _ J.below (J.heap cIn)) ?_;clear J;intro I J;dsimp only));refine rt1 ?_;exact⟨rfl,J.below⟩
end Go.Proofs.YtplcndmdkabmeaaGreatDoor
