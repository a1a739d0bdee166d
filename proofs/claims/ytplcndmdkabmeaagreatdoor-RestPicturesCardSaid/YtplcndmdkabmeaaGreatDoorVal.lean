/- The walk over the package code's Check. Conditions: the instructions lie in memory that was there. -/
import Derived.Test.YtplcndmdkabmeaaGreatDoorCod
import Derived.Test.YtplcndmdkabmeaaGreatDoorCop
set_option linter.unusedSimpArgs false
set_option linter.unusedVariables false
set_option maxRecDepth 100000
set_option maxHeartbeats 4000000
namespace Go.Proofs.YtplcndmdkabmeaaGreatDoor
open Go.Proofs.Tryz
open Go.RowKit
def qh (p:Pg) (is:Nat->Ins) (at' : Int):Bool:=decide (0<=at')&&(decide (at' < p.n)&&(is at'.toNat).kind==11)
theorem zbW (p:Pg) (is:Nat->Ins) (a:Int):a<0∨(0<=a∧(p.n:Int)<=a)∨∃ k:Nat,a=k∧k<p.n:=by
 rcases (by omega:a<0∨0<=a) with h|h
 ·exact .inl h
 ·rcases (by omega:a<p.n∨(p.n:Int)<=a) with g|g
  ·exact .inr (.inr ⟨a.toNat,by omega,by omega⟩)
  ·exact .inr (.inl ⟨h,g⟩)
theorem YM (p:Pg) (is:Nat->Ins) (a:Int) (w:World) (hc:zy w p is):
  Calls prog 127 #[p.v,.int .i64 a] w fun e R=>e=.returned (.bool (qh p is a))∧Below w.heap.size w R:=by
 obtain⟨b,o,j,hc⟩:=hc.kinds;have C:=za j;have t:=za hc;clear j hc;have J:=Loc.start w;rcases zbW p is a with h|⟨h,U⟩|⟨k,rfl,i⟩
 ·go_enter func127,ntmps127
  go_wp2_with (with_reducible refine lbx J ?_;clear J;intro g w1 J);refine rt1 ?_;exact⟨by simp[qh];omega,J.below⟩
 ·go_enter func127,ntmps127
  go_wp2_with (with_reducible first|refine lld J ?_|(refine lbx J ?_;clear J;intro g w1 J));refine rt1 ?_;exact⟨by simp[qh];omega,J.below⟩
 ·have I:=za (C.out (by omega))
  have P:=za (t.out k i);obtain⟨vars,T,ab,n,cap⟩:=p;obtain rfl:=I.out;go_enter func127,ntmps127;go_wp2_with (first|(with_reducible first|refine lld J ?_|(refine lbx J ?_;clear J;intro g w1 J))|(refine zL P.out J (by exact yy) rfl ?_));refine rt1 ?_;exact⟨by simp[qh,i],J.below⟩
def zM (v:Vl) (g:Int):Bool:=if v.kind=0 then v.n==0 else if v.kind=1 then zU v.n (-2147483648) 2147483647 else if v.kind=2 then zU v.n 0 1 else if v.kind=3 then zU v.n 0 (g - 1) else false
def yF (v:Vl):Bool:=v.kind==3 || (v.kind != 0&&v.n != 0)
theorem zdU (v:Vl) (t:Int) (R:0<=t) (T:t<=9223372036854775807) (w:World):
  Calls prog 130 #[v.v,.int .i64 t] w fun e j=>e=.returned (.bool (zM v t))∧Below w.heap.size w j:=by
 obtain⟨k,n⟩:=v;have i:k=0∨(k=1∧-2147483648<=n)∨(k=1∧n < -2147483648)∨(k=2∧n=0)∨(k=2∧(n==0)=false)∨(k=3∧0<=n)∨(k=3∧n<0)∨((k==0)=false∧(k==1)=false∧(k==2)=false∧(k==3)=false):=by simp only[beq_eq_false_iff_ne];omega
 have J:=Loc.start w;rcases i with rfl|⟨rfl,g⟩|⟨rfl,g⟩|⟨rfl,rfl⟩|⟨rfl,g⟩|⟨rfl,g⟩|⟨rfl,g⟩|⟨p,C,I,P⟩
 all_goals
  go_enter func130,ntmps130;go_wp2_with (with_reducible first|refine lld J ?_|(refine lbx J ?_;clear J;intro o U J));refine rt1 ?_;refine⟨?_,J.below⟩
  first|(simp_all [zM,zU];done)|(simp_all [zM,zU];omega)|(simp_all [zM,zU];rw[Bool.eq_iff_iff];simp;omega)
theorem Gx (k n:Int):k=3∨k=0∨k=1∨k=2∨((k==3)=false∧(k==0)=false∧(k != 0)=true∧(k==1)=false∧(k==2)=false):=by simp only[beq_eq_false_iff_ne,bne_iff_ne];omega
theorem YN (v:Vl) (w:World):
  Calls prog 91 #[v.v] w fun e j=>e=.returned (.bool (yF v))∧Below w.heap.size w j:=by
 obtain⟨k,n⟩:=v;have J:=Loc.start w;rcases Gx k n with rfl|rfl|rfl|rfl|⟨g,p,i,t,C⟩
 all_goals
  go_enter func91,ntmps91;go_wp2_with (with_reducible first|refine lld J ?_|(refine lbx J ?_;clear J;intro o I J));refine rt1 ?_;refine⟨?_,J.below⟩
  first|(simp[yF];done)|(simp[yF,g,i];done)
def jW (b:Bool):Vl:=⟨2,if b then 1 else 0⟩
theorem Z4 (b:Bool) (w:World):
  Calls prog 89 #[.bool b] w fun e g=>e=.returned (jW b).v∧Below w.heap.size w g:=by
 have J:=Loc.start w;cases b
 all_goals
  go_enter func89,ntmps89;go_wp2_with (with_reducible first|refine lld J ?_|(refine lal J ?_;clear J;intro j i J)|(refine zc J ?_;clear J;intro i J));refine rt1 ?_;exact⟨rfl,J.below⟩
theorem zaB (p:Option Addr) (n cap:Nat) (f:Nat->Value) (q:Nat->Bool) (K:FuncId) (c:Value) (w:World) (hn:n<=9223372036854775807) (ab:jG prog 79 2 w p n f) (hf:zcJ prog K c w n f q):
  Calls prog 178 #[.slice p n cap,.func (.func K) #[] #[c]] w fun e ai=>∃ r:Int,e=.returned (.int .i64 r)∧decide (0<=r)=qa q n∧Below w.heap.size w ai:=by
 obtain⟨b,o,ac,U⟩:=ab.ex;have ag:=za ac;have ae:=za U;have af:=za hf.run;have ak:=hf.enter;clear ac U ab hf;have J:=Loc.start w;go_enter func178,ntmps178;go_wp2;go_loopw [8] (fun x wr=>∃ k:Nat,k<=n∧x=.int .i64 k∧(∀ i,i<k->q i=false)∧Loc w wr [] []) (fun x _=>n - (intOf x).toNat)
 case atStart=>exact⟨0,Nat.zero_le _,rfl,fun i aa=>absurd aa (by omega),J⟩
 case round=>
  obtain⟨k,al,rfl,ad,J⟩:=hrel;have R:=za ad;clear ad;by_cases C:k<n
  ·have P:=za (ag.out (by omega))
   have T:=za (ae.out k C);have I:=za (af.out k C);cases j:q k with
   | true=>
    have g:=I.out;rw[j]at g;have t:=za g;have HA:=za (qg C j);clear g j;go_upto_region 4 with(fail)
    refine zx [11,12,13,14,15,16] ?_
    iterate 3 refine qdv ?_
    refine qdx P.out ?_;refine qdl T.out ?_;refine qdk J (fun _ ah J=>t.out _ J.below) ?_;refine dns J ?_;clear J;intro aj J;simp only[zr,sTa,sTb];go_wp2;go_ret;exact⟨_,rfl,by rw[HA.out];simp,J.below⟩
   | false=>
    have g:=I.out;rw[j]at g;have t:=za g;have HA:=za j;clear g j;go_upto_region 4 with(fail)
    refine zx [11,12,13,14,15,16] ?_
    iterate 3 refine qdv ?_
    refine qdx P.out ?_;refine qdl T.out ?_;refine qdk J (fun _ ah J=>t.out _ J.below) ?_;refine dns J ?_;clear J;intro aj J;simp only[zr,sTa,sTb];go_wp2;go_roundw
    case rel=>
     refine⟨k+1,by omega,by go_num,fun i aa=>?_,J⟩;rcases Nat.lt_or_ge i k with h|h
     ·exact R.out i h
     ·obtain rfl:i=k:=by omega
      exact HA.out
    case measure=>simp[intOf];omega
  ·obtain rfl:k=n:=by omega
   go_wp2;go_ret;exact⟨_,rfl,by rw[qu R.out];rfl,J.below⟩
theorem Q3 (p:Option Addr) (n cap:Nat) (f:Nat->Value) (q:Nat->Bool) (K:FuncId) (c:Value) (w:World) (hn:n<=9223372036854775807) (g:jG prog 79 2 w p n f) (hf:zcJ prog K c w n f q):
  Calls prog 125 #[.slice p n cap,.func (.func K) #[] #[c]] w fun e t=>e=.returned (.bool (qa q n))∧Below w.heap.size w t:=by
 have i:=za (zaB p n cap f q K c w hn g hf);clear g hf;go_enter func125,ntmps125;go_wp2_with (go_at_call 178;refine i.out.mono ?_;rintro e C ⟨r,rfl,o,j⟩;dsimp only);go_ret;exact⟨by rw[<- o];rfl,j⟩
theorem zaC (p:Option Addr) (n cap:Nat) (f:Nat->Value) (q:Nat->Bool) (K:FuncId) (c:Value) (w:World) (hn:n<=9223372036854775807) (ab:jG prog 77 2 w p n f) (hf:zcJ prog K c w n f q):
  Calls prog 179 #[.slice p n cap,.func (.func K) #[] #[c]] w fun e ai=>∃ r:Int,e=.returned (.int .i64 r)∧decide (0<=r)=qa q n∧Below w.heap.size w ai:=by
 obtain⟨b,o,ac,U⟩:=ab.ex;have ag:=za ac;have ae:=za U;have af:=za hf.run;have ak:=hf.enter;clear ac U ab hf;have J:=Loc.start w;go_enter func179,ntmps179;go_wp2;go_loopw [8] (fun x wr=>∃ k:Nat,k<=n∧x=.int .i64 k∧(∀ i,i<k->q i=false)∧Loc w wr [] []) (fun x _=>n - (intOf x).toNat)
 case atStart=>exact⟨0,Nat.zero_le _,rfl,fun i aa=>absurd aa (by omega),J⟩
 case round=>
  obtain⟨k,al,rfl,ad,J⟩:=hrel;have R:=za ad;clear ad;by_cases C:k<n
  ·have P:=za (ag.out (by omega))
   have T:=za (ae.out k C);have I:=za (af.out k C);cases j:q k with
   | true=>
    have g:=I.out;rw[j]at g;have t:=za g;have HA:=za (qg C j);clear g j;go_upto_region 4 with(fail)
    refine zx [11,12,13,14,15,16] ?_
    iterate 3 refine qdv ?_
    refine qdx P.out ?_;refine qdl T.out ?_;refine qdk J (fun _ ah J=>t.out _ J.below) ?_;refine dns J ?_;clear J;intro aj J;simp only[zr,sTa,sTb];go_wp2;go_ret;exact⟨_,rfl,by rw[HA.out];simp,J.below⟩
   | false=>
    have g:=I.out;rw[j]at g;have t:=za g;have HA:=za j;clear g j;go_upto_region 4 with(fail)
    refine zx [11,12,13,14,15,16] ?_
    iterate 3 refine qdv ?_
    refine qdx P.out ?_;refine qdl T.out ?_;refine qdk J (fun _ ah J=>t.out _ J.below) ?_;refine dns J ?_;clear J;intro aj J;simp only[zr,sTa,sTb];go_wp2;go_roundw
    case rel=>
     refine⟨k+1,by omega,by go_num,fun i aa=>?_,J⟩;rcases Nat.lt_or_ge i k with h|h
     ·exact R.out i h
     ·obtain rfl:i=k:=by omega
      exact HA.out
    case measure=>simp[intOf];omega
  ·obtain rfl:k=n:=by omega
   go_wp2;go_ret;exact⟨_,rfl,by rw[qu R.out];rfl,J.below⟩
theorem ZA (p:Option Addr) (n cap:Nat) (f:Nat->Value) (q:Nat->Bool) (K:FuncId) (c:Value) (w:World) (hn:n<=9223372036854775807) (g:jG prog 77 2 w p n f) (hf:zcJ prog K c w n f q):
  Calls prog 131 #[.slice p n cap,.func (.func K) #[] #[c]] w fun e t=>e=.returned (.bool (qa q n))∧Below w.heap.size w t:=by
 have i:=za (zaC p n cap f q K c w hn g hf);clear g hf;go_enter func131,ntmps131;go_wp2_with (go_at_call 179;refine i.out.mono ?_;rintro e C ⟨r,rfl,o,j⟩;dsimp only);go_ret;exact⟨by rw[<- o];rfl,j⟩
structure Th where
 site:Int
 fs:Sl
abbrev Th.v (t:Th):Value:=.agg #[.int .i64 t.site,.slice t.fs.p t.fs.n t.fs.cap]
structure Rn where
 at' : Int
 vars:Sl
 things:Sl
 taken:Int
 lines:Sl
 ending:Int
abbrev Rn.v (r:Rn):Value:=.agg #[.int .i64 r.at',.slice r.vars.p r.vars.n r.vars.cap,.slice r.things.p r.things.n r.things.cap,.int .i64 r.taken,.slice r.lines.p r.lines.n r.lines.cap,.int .i64 r.ending]
theorem Loc.readsAt {P:Program}{w0 w:World}{L:List zg}{D:List zl}{b:Nat}{T Tv:TypeId}{g:List Value}{f:List Value->List zg}{off:Nat}{v:Value}(J:Loc w0 w L D) (i:InL b T g L f) (hv:zn P Tv g off v):zd P Tv w b off v:=
 ⟨zz (J.heap i),fun o h=>hv.run o b (fun j=>(h j).trans (J.cell i j))⟩
theorem zhU:jy prog 138:=⟨by kernel_rfl,by kernel_rfl⟩
theorem zjd:yx prog 138 [.nilFunc]:=⟨by kernel_rfl⟩
theorem zhV:∀ args w,(callFunc 126 args).run prog w=.ok (.enter 126 args) w:=fun args w=>by kernel_rfl
theorem zhW:∀ args w,(callFunc 128 args).run prog w=.ok (.enter 128 args) w:=fun args w=>by kernel_rfl
theorem zhX:∀ args w,(callFunc 129 args).run prog w=.ok (.enter 129 args) w:=fun args w=>by kernel_rfl
theorem zhY:∀ args w,(callFunc 132 args).run prog w=.ok (.enter 132 args) w:=fun args w=>by kernel_rfl
theorem zbX (p:Pg) (is:Nat->Ins) (t:Th) (b:Nat) (w:World) (i:zd prog 27 w b 0 p.v) (hc:zy w p is):
  Calls prog 126 #[t.v,.pointer (some ⟨b,0,none⟩)] w fun e j=>e=.returned (.bool (!qh p is t.site))∧Below w.heap.size w j:=by
 have g:=za hc;clear hc;have J:=Loc.start w;go_enter func126,ntmps126;go_wp2_with (first|(with_reducible first|refine lld J ?_|(refine lbx J ?_;clear J;intro C o J))|(refine zL i J rfl rfl ?_)|(go_at_call 127;refine cg J (YM p is _ _ (g.out.grow J.below)) ?_;clear J;intro o J;dsimp only));refine rt1 ?_;exact⟨rfl,J.below⟩
theorem zbY (g:Int) (t:Th) (b:Nat) (w:World) (i:zd prog 3 w b 1 (.int .i64 g)):
  Calls prog 128 #[t.v,.pointer (some ⟨b,0,none⟩)] w fun e j=>e=.returned (.bool ((t.fs.n:Int) != g))∧Below w.heap.size w j:=by
 have J:=Loc.start w;go_enter func128,ntmps128;go_wp2_with (first|(with_reducible first|refine lld J ?_|(refine lbx J ?_;clear J;intro o p J))|(refine zL i J rfl rfl ?_));refine rt1 ?_;exact⟨rfl,J.below⟩
theorem zbZ (s:Sl) (v:Vl) (b:Nat) (w:World) (hn:s.n<=9223372036854775807) (g:zd prog 43 w b 2 s.v):
  Calls prog 129 #[v.v,.pointer (some ⟨b,0,none⟩)] w fun e i=>e=.returned (.bool (!zM v s.n))∧Below w.heap.size w i:=by
 have J:=Loc.start w;go_enter func129,ntmps129;go_wp2_with (first|(with_reducible first|refine lld J ?_|(refine lbx J ?_;clear J;intro o j J))|(refine zL g J rfl rfl ?_)|(go_at_call 130;refine cg J (zdU _ _ (by omega) (by omega) _) ?_;clear J;intro j J;dsimp only));refine rt1 ?_;exact⟨rfl,J.below⟩
theorem fn3 (s:Sl) (b:Nat) (w:World) (hn:s.n<=9223372036854775807) (i:zd prog 43 w b 2 s.v) (n:Nat) (vs:Nat->Vl):
  zcJ prog 129 (.pointer (some ⟨b,0,none⟩)) w n (fun k=>(vs k).v) (fun k=>!zM (vs k) s.n):=
 ⟨zhX,fun k _ j g=>zbZ s (vs k) b j hn (i.grow g)⟩
theorem zb0 (s:Sl) (t:Th) (vs:Nat->Vl) (b i:Nat) (w:World) (hn:s.n<=9223372036854775807) (I:t.fs.n<=9223372036854775807) (P:zd prog 43 w b 2 s.v)
  (R:zd prog 138 w i 0 (.func (.func 129) #[] #[.pointer (some ⟨b,0,none⟩)])) (o:jG prog 77 2 w t.fs.p t.fs.n (fun k=>(vs k).v)):
  Calls prog 132 #[t.v,.pointer (some ⟨i,0,none⟩)] w fun e g=>e=.returned (.bool (qa (fun k=>!zM (vs k) s.n) t.fs.n))∧Below w.heap.size w g:=by
 have C:=za (fun g (j:Below w.heap.size w g)=>ZA t.fs.p t.fs.n t.fs.cap (fun k=>(vs k).v) (fun k=>!zM (vs k) s.n) 129 (.pointer (some ⟨b,0,none⟩)) g I (o.grow j) (fn3 s b g hn (P.grow j) t.fs.n vs));clear o;have J:=Loc.start w;go_enter func132,ntmps132;go_wp2_with (first|(with_reducible first|refine lld J ?_|(refine lbx J ?_;clear J;intro U T J))|(refine zL R J rfl rfl ?_)|(go_at_call 131;refine cg J (C.out _ J.below) ?_;clear J;intro T J;dsimp only));refine rt1 ?_;exact⟨rfl,J.below⟩
theorem jn (p:Pg) (is:Nat->Ins) (w:World) (hc:zy w p is) (hn:p.n<=9223372036854775807):
  Calls prog 43 #[p.v] w fun e a3=>e=.returned (.int .i64 (zf p is))∧Below w.heap.size w a3:=by
 obtain⟨b,o,ao,hc⟩:=hc.reads;have aw:=za ao;have au:=za hc;clear ao hc;have ad:=za (show zf p is=if y0 p then 3 else if 60<p.n then 2 else jY (fun k=>zQ p (is k)) 0 p.n from rfl);have J:=Loc.start w;go_enter func43,ntmps43;go_step;go_step;go_step
 ((with_reducible refine lbx J ?_);clear J;intro ay ab J)
 go_upto_region 1 with(fail)
 refine zx [7,8,9,10,11,12,13,14,15,16,6] ?_
 iterate 2 refine qdv ?_
 refine qdk J (fun _ i J=>qk0 (Zk _ _ _ _)) ?_
 iterate 4 refine qda ?_
 refine yu J (fun _ i J=>qk0 (Zk _ _ _ _)) ?_
 iterate 3 refine qda ?_
 refine dns J ?_;clear J;intro ar J;simp only[zr,sTa,sTb];cases h1:y0 p with
 | true=>
  have h0:=h1;unfold y0 at h0;simp only[h0];clear h0;have I:=za h1;clear h1;go_wp2;refine rt1 ?_;exact⟨by rw[ad.out,if_pos I.out];rfl,J.below⟩
 | false=>
 have h0:=h1;unfold y0 at h0;simp only[h0];clear h0;have I:=za h1;clear h1;by_cases j:60<p.n
 ·go_wp2_with (with_reducible refine lld J ?_)
  refine rt1 ?_;exact⟨by rw[ad.out,if_neg (by rw[I.out];decide),if_pos j];rfl,J.below⟩
 have ax:=za (VL I.out j);have av:=za (show zf p is=jY (fun k=>zQ p (is k)) 0 p.n from by rw[ad.out,if_neg (by rw[I.out];decide),if_neg j]);have a5:p.n<=60:=by omega
 clear j;go_wp2_with (with_reducible refine lld J ?_);go_loopw [25] (fun c wr=>∃ k:Nat,k<=p.n∧c=.int .i64 k∧zf p is=jY (fun k=>zQ p (is k)) k (p.n - k)∧Loc w wr [(ay,27,[.int .i64 p.vars,.int .i64 p.fields,.slice p.pc p.n p.cap])] []) (fun c _=>p.n - (intOf c).toNat)
 case atStart=>exact⟨0,Nat.zero_le _,rfl,av.out,J⟩
 case round=>
  obtain⟨k,a4,rfl,ak,J⟩:=hrel;have ag:=za ak;clear ak;by_cases a1:k<p.n
  ·obtain⟨m,j⟩:∃ m,p.n - k=m+1:=⟨p.n - k - 1,by omega⟩
   have aa:=ag.out;rw[j,jY]at aa;have al:p.n - (k+1)=m:=by omega
   rw[<- al]at aa;have aj:=za aa;have an:=aw.out (by omega);have ah:=za an;have aq:=au.out k a1;have C:=zg0 p (is k) ax.out;have ai:=za aq;clear aa j al an aq;by_cases t:zQ p (is k)=0
   ·rw[t]at C
    have ae:=za C;have ac:=za t;clear C t;go_upto_region 7 with(fail)
    refine zx [27,28,4] ?_;refine qdx ah.out ?_;refine qdl ai.out ?_;refine qdp ?_;refine des J ?_;intro g ar i T q;simp only[aG]at q;obtain⟨az,U,R,P⟩:=qye T 2;clear T;simp only[fD];simp only[q,R];clear q R;replace J:=J.gain i U P;clear U P;clear i;go_wp2_with (first|(with_reducible first|refine lld J ?_|(refine zc J ?_;clear J;intro ab J))|(go_at_call 86;refine cg J (ae.out _) ?_;clear J;intro ab J;dsimp only));go_roundw
    case rel=>exact⟨k+1,by omega,by go_num,by have h:=aj.out;rw[if_neg (by simp[ac.out])]at h;exact h,J.drop (.cons _ (List.Sublist.refl _)) (fun _ h=>h)⟩
    case measure=>simp[intOf];omega
   ·have af:zf p is=zQ p (is k):=by have h:=aj.out;rw[if_pos t]at h;exact h
    have a2:(zQ p (is k) != 0)=true:=by simp[t]
    generalize zQ p (is k)=ce at C af a2;have ae:=za C;have ac:=za af;clear C af t;go_upto_region 7 with(fail)
    refine zx [27,28,4] ?_;refine qdx ah.out ?_;refine qdl ai.out ?_;refine qdp ?_;refine des J ?_;intro g ar i T q;simp only[aG]at q;obtain⟨az,U,R,P⟩:=qye T 2;clear T;simp only[fD];simp only[q,R];clear q R;replace J:=J.gain i U P;clear U P;clear i;go_wp2_with (first|(with_reducible first|refine lld J ?_|(refine zc J ?_;clear J;intro ab J))|(go_at_call 86;refine cg J (ae.out _) ?_;clear J;intro ab J;dsimp only));refine rt1 ?_;exact⟨by rw[ac.out];rfl,J.below⟩
  ·go_wp2
   refine rt1 ?_;exact⟨by rw[ag.out,show p.n - k=0 by omega];rfl,J.below⟩
end Go.Proofs.YtplcndmdkabmeaaGreatDoor
