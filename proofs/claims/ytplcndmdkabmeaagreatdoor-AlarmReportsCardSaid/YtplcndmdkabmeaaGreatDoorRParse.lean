/- The walk over the reference's ParseOf. Conditions: none. -/
import Derived.Test.YtplcndmdkabmeaaGreatDoorRInstr
import Derived.Test.YtplcndmdkabmeaaGreatDoorParse
set_option linter.unusedSimpArgs false
set_option linter.unusedVariables false
set_option maxRecDepth 100000
set_option maxHeartbeats 1600000
namespace Go.Proofs.YtplcndmdkabmeaaGreatDoor
open Go.RowKit
def ZG (l:Byt) (ps:List Byt) (i:Nat) (v f:Int) (done:List Ins):Prop:=
 (i=0∧v=0∧f=0∧done=[])∨(1≤i∧jw l=match Qp (i+1) (ps.drop i) with|.ok is=>.ok ((v,f),done++is)|.error m=>.error m)
theorem Ks {ps:List Byt}{i:Nat}(h:i+1<ps.length):ps.drop i=ps.getD i []::ps.drop (i+1)∧ps.drop (i+1)≠[]:=by
 refine⟨?_,fun h2=>?_⟩
 ·rw[List.getD_eq_getElem?_getD,List.getElem?_eq_getElem (by omega)]
  exact List.drop_eq_getElem_cons (by omega)
 ·have:=congrArg List.length h2
  simp at this
  omega
theorem KX {ps:List Byt}{i:Nat}(h:i+1=ps.length):ps.drop i=[ps.getD i []]:=by
 rw[List.getD_eq_getElem?_getD,List.getElem?_eq_getElem (by omega),List.drop_eq_getElem_cons (by omega),List.drop_of_length_le (by omega)]
 rfl
theorem Vm {l:Byt}{ps:List Byt}(hp:zE 10 l=ps) (h:0+1=ps.length):jw l=.error 1:=by
 have:=KX h
 unfold jw
 rw[hp,show ps=[ps.getD 0 []] by simpa using this,Z4,if_pos rfl]
theorem Vn {l:Byt}{ps:List Byt}(hp:zE 10 l=ps) (h:0+1<ps.length) (hh:Ju (ps.getD 0 [])=none):jw l=.error 1:=by
 obtain⟨h1,h2⟩:=Ks h
 unfold jw
 rw[hp,show ps=ps.getD 0 []::ps.drop 1 by simpa using h1,Z4,if_neg h2,hh]
theorem Vo {l:Byt}{ps:List Byt}{v f:Int}(hp:zE 10 l=ps) (h:0+1<ps.length) (hh:Ju (ps.getD 0 [])=some (v,f)):ZG l ps 1 v f []:=by
 obtain⟨h1,h2⟩:=Ks h
 refine .inr ⟨Nat.le_refl _,?_⟩
 have hps:zE 10 l=ps.getD 0 []::ps.drop 1:=by rw[hp];simpa using h1
 unfold jw
 rw[hps,Z4,if_neg h2,hh]
 dsimp only
 cases Qp 2 (ps.drop 1)<;>rfl
theorem ZG.done {l:Byt}{ps:List Byt}{i:Nat}{v f:Int}{done:List Ins}(h:ZG l ps i v f done) (hi:1≤i) (hl:i+1=ps.length) (he:ps.getD i []=[]):jw l=.ok ((v,f),done):=by
 rcases h with h|⟨_,h⟩
 ·omega
 ·rw[h,KX hl,he,Qp,if_pos rfl]
  simp
theorem ZG.last {l:Byt}{ps:List Byt}{i:Nat}{v f:Int}{done:List Ins}(h:ZG l ps i v f done) (hi:1≤i) (hl:i+1=ps.length) (he:¬ps.getD i []=[]):jw l=.error (i+1):=by
 rcases h with h|⟨_,h⟩
 ·omega
 ·rw[h,KX hl,Qp,if_neg he]
theorem ZG.none {l:Byt}{ps:List Byt}{i:Nat}{v f:Int}{done:List Ins}(h:ZG l ps i v f done) (hi:1≤i) (hl:i+1<ps.length) (hh:jZ (ps.getD i [])=none):jw l=.error (i+1):=by
 obtain⟨h1,h2⟩:=Ks hl
 rcases h with h|⟨_,h⟩
 ·omega
 ·rw[h,h1,Jv h2,hh]
theorem ZG.some {l:Byt}{ps:List Byt}{i:Nat}{v f:Int}{done:List Ins}{x:Ins}(h:ZG l ps i v f done) (hi:1≤i) (hl:i+1<ps.length) (hh:jZ (ps.getD i [])=some x):ZG l ps (i+1) v f (done++[x]):=by
 obtain⟨h1,h2⟩:=Ks hl
 rcases h with h|⟨_,h⟩
 ·omega
 ·refine .inr ⟨by omega,?_⟩
  rw[h,h1,Jv h2,hh]
  dsimp only
  cases Qp (i+1+1) (ps.drop (i+1))<;>simp
theorem zcd (l:Byt) (hl:l.length≤1000000) (w:World):
  Calls Tryz.prog 38 #[yM l] w fun e w'=>∃ i:Ins,e=.returned (.tuple #[i.v,.bool (jZ l).isSome])∧(∀ j,jZ l=some j→i=j)∧Below w.heap.size w w':=by
 have h:=zbg ⟨l.toArray⟩ (by show l.toArray.size≤_;simpa using hl) w
 simpa using h
theorem zgJ (l:Byt) (ci:Int) (c:UInt8) (hci:ci=(c.toNat:Int)) (hl:l.length≤1000000) (w:World):
  Calls Tryz.prog 36 #[yM l,.int .u8 ci] w fun e w'=>∃ (p:Option Addr) (n cap:Nat) (R:List zj),e=.returned (.slice p n cap)∧zM 9 1 p n cap ((zE c l).map yM) R∧Loc w w' R []:=by
 have h:=VF ⟨l.toArray⟩ ci c hci (by show l.toArray.size≤_;simpa using hl) w
 simpa using h
theorem Y1 (s:ByteArray) (w:World) (hm:s.size≤9223372036854775807):
  Calls Tryz.prog 8 #[.string s] w fun e w'=>jD w s.data.toList e w':=by
 have hln:s.data.toList.length=s.size:=Array.length_toList
 have hL:=Loc.start w
 go_enter Tryz.func8,Tryz.ntmps8
 by_cases hbig:4000<s.size
 ·have HB:=Lib.hid (show qT s.data.toList=(none,0,2) by unfold qT;rw[if_pos (by omega)])
  have hd:decide (4000<(s.size:Int))=true:=by simp;omega
  go_wp2_with (first|(with_reducible first|(refine lal hL ?_;clear hL;intro bl w1 hL)|(refine zd hL ?_;clear hL;intro w1 hL)))
  refine rt3 ?_
  exact jD.bad HB.out hL.below
 have hd:decide (4000<(s.size:Int))=false:=by simp;omega
 have hl:s.data.toList.length≤4000:=by omega
 have HC:=Lib.hid (fun w'=>VF s 10 10 rfl (by omega) w')
 obtain⟨ps,hps⟩:∃ ps,zE 10 s.data.toList=ps:=⟨_,rfl⟩
 have HPS:=Lib.hid hps
 have hmc:=yd 10 s.data.toList
 have hml:0<ps.length:=by rw[← hps];exact List.length_pos_iff.2 (jK _ _)
 have HLN:=Lib.hid (fun p (hp:p∈zE 10 s.data.toList)=>Nat.le_trans (yz hp) hl)
 rw[hps]at HC hmc HLN
 have hm1:ps.length≤4001:=by omega
 clear hps hmc
 go_upto_region 3 with(first|((with_reducible refine lal hL ?_);clear hL;intro b2 w1 hL))
 clear hd
 go_wp2_with (first|(go_at_call 36;refine(HC.out _).mono ?_;rintro e w3 ⟨p1,n1,cap1,R1,rfl,hR1,hq⟩;replace hL:=hL.gave hq;clear hq;simp only[List.nil_append,List.append_nil,List.cons_append]at hL;dsimp only)|((with_reducible refine lal hL ?_);clear hL;intro b6 w1 hL))
 obtain rfl:n1=ps.length:=by have:=hR1.1;simpa using this.symm
 obtain⟨g1,cs1,rfl,rfl,-,htk⟩:=hR1.blk hml
 have HTK:=Lib.hid (fun k (hk:k<ps.length)=>qW (ps:=ps) htk hk)
 clear hR1 htk
 go_loopw [7] (fun c wr=>∃ (i:Nat) (v f:Int) (done:List Ins) (pc:Option Addr) (cap:Nat) (R:List zj),i<ps.length∧c=.int .i64 i∧done.length≤i∧ZG s.data.toList ps i v f done∧zM 86 6 pc done.length cap (done.flatMap Ins.cells) R∧Loc w wr ([(b6,27,[.int .i64 v,.int .i64 f,.slice pc done.length cap]),(b2,27,[.int .i64 0,.int .i64 0,.slice none 0 0]),(g1,9,cs1)]++R) []) (fun c _=>ps.length - (intOf c).toNat)
 case atStart=>exact⟨0,0,0,[],none,0,[],hml,rfl,Nat.le_refl _,.inl ⟨rfl,rfl,rfl,rfl⟩,zM.nil,hL⟩
 case round=>
  clear hL
  obtain⟨i,v,f,done,pc,cap,R,hi,rfl,hdn,hat,hR,hL⟩:=hrel
  simp only[List.cons_append,List.nil_append]at hL
  have HAT:=Lib.hid hat
  have HR:=Lib.hid hR
  have HRD:=Lib.hid (HTK.out i hi)
  have hlen:=HLN.out (ps.getD i []) (by rw[List.getD_eq_getElem?_getD,List.getElem?_eq_getElem hi];exact List.getElem_mem hi)
  clear hat hR
  rcases Nat.eq_zero_or_pos i with rfl|hi1
  ·obtain⟨rfl,rfl,rfl⟩:v=0∧f=0∧done=[]:=by
    rcases HAT.out with⟨_,h4,h5,h6⟩|⟨h3,_⟩
    ·exact⟨h4,h5,h6⟩
    ·omega
   have e0:((0:Nat):Int)=0:=rfl
   simp only[e0]
   have HC2:=Lib.hid (fun w'=>zgJ (ps.getD 0 []) 32 32 rfl (by omega) w')
   have hne:=jK 32 (ps.getD 0 [])
   have hqc:=yd 32 (ps.getD 0 [])
   have hql:∀ q∈zE 32 (ps.getD 0 []),q.length≤4000:=fun q hq=>Nat.le_trans (yz hq) hlen
   have HH:=Lib.hid (show Ju (ps.getD 0 [])=JS (zE 32 (ps.getD 0 [])) from rfl)
   by_cases hlast:0+1=ps.length
   ·have hlb:((0:Int)==((ps.length:Int) - 1))=true:=by rw[beq_iff_eq];omega
    have HB:=Lib.hid (j8 hl (Vm HPS.out hlast))
    have hqn:0<(zE 32 (ps.getD 0 [])).length:=List.length_pos_iff.2 hne
    clear HH
    generalize zE 32 (ps.getD 0 [])=qs at HC2 hqn hqc hql
    generalize ps.getD 0 []=li at HRD HC2
    clear hne hqc hql hlast
    go_wp2_with (first|(go_at_call 36;refine(HC2.out _).mono ?_;rintro e w3 ⟨p2,n2,cap2,R2,rfl,hR2,hq⟩;obtain rfl:n2=qs.length:=(by have:=hR2.1;simpa using this.symm);obtain⟨g2,cs2,rfl,rfl,-,htk2⟩:=hR2.blk (by omega);have HTK2:=Lib.hid htk2;clear hR2 htk2;replace hL:=(hL.gave hq).fact (S:=ja g2 9 cs2) (fun w' h=>h _ List.mem_cons_self);clear hq;simp only[List.append_nil,List.nil_append]at hL;dsimp only)|(refine zR (b:=g1) hL rfl rfl cIn (ze.cell j0 (HRD.out)) ?_)|(with_reducible refine zd hL ?_;clear hL;intro w1 hL))
    refine rt3 ?_
    exact jD.bad HB.out hL.below
   ·have hlb:((0:Int)==((ps.length:Int) - 1))=false:=by rw[beq_eq_false_iff_ne];omega
    have hi2:0+1<ps.length:=by omega
    have HEN:=Lib.hid (fun h:Ju (ps.getD 0 [])=none=>j8 hl (Vn HPS.out hi2 h))
    have HES:=Lib.hid (fun v f (h:Ju (ps.getD 0 [])=some (v,f))=>Vo HPS.out hi2 h)
    rw[HH.out]at HEN HES
    have hqn:0<(zE 32 (ps.getD 0 [])).length:=List.length_pos_iff.2 hne
    clear HH hlast e0
    generalize zE 32 (ps.getD 0 [])=qs at HC2 hqn hqc hql HEN HES
    generalize ps.getD 0 []=li at HRD HC2 hqc hlen
    clear hne
    by_cases h4:qs.length=4
    ·obtain⟨a,b,c,d,rfl⟩:=zgx h4
     clear h4 hqn hqc
     have HUB:=Lib.hid (fun w'=>zbd b (by have:=hql b (by simp);omega) w')
     have HUD:=Lib.hid (fun w'=>zbd d (by have:=hql d (by simp);omega) w')
     rw[zch]at HUB HUD
     clear hql
     by_cases hac:a=jG∧c=qD
     ·obtain⟨rfl,rfl⟩:=hac
      have HQ1:=Lib.hid (V8 b d)
      have HQ2:=Lib.hid (V9 (b:=b) (d:=d))
      have HVB:=Lib.hid (fun h:yo b=true=>Vx h)
      have HVD:=Lib.hid (fun h:yo d=true=>Vx h)
      generalize yT b=vb at HUB HVB
      generalize yT d=vd at HUD HVD
      generalize hnb:yo b=nb at HUB HQ1 HVB
      generalize hnd:yo d=nd at HUD HQ1 HVD
      clear hnb hnd
      cases nb<;>cases nd
      ·have HB:=Lib.hid (HEN.out (by cases h:JS [jG,b,qD,d] with|none=>rfl|some q=>(have h2:=HQ1.out;rw[h]at h2;cases h2)))
       go_wp2_with (first|(go_at_call 36;refine(HC2.out _).mono ?_;rintro e w3 ⟨p2,n2,cap2,R2,rfl,hR2,hq⟩;obtain rfl:n2=4:=(by have:=hR2.1;simpa using this.symm);obtain⟨g2,cs2,rfl,rfl,-,htk2⟩:=hR2.blk (by omega);have HTK2:=Lib.hid htk2;clear hR2 htk2;replace hL:=(hL.gave hq).fact (S:=ja g2 9 cs2) (fun w' h=>h _ List.mem_cons_self);clear hq;simp only[List.append_nil,List.nil_append]at hL;dsimp only)|(refine zR (b:=g1) hL rfl rfl cIn (ze.cell j0 (HRD.out)) ?_)|(refine' qz hL ?_ rfl List.mem_cons_self (ze.cell j0 (qW (ps:=[jG,b,qD,d]) HTK2.out (k:=0) (by simp))) ?_;(case refine'_1=>exact jQ))|(refine' qz hL ?_ rfl List.mem_cons_self (ze.cell j0 (qW (ps:=[jG,b,qD,d]) HTK2.out (k:=1) (by simp))) ?_;(case refine'_1=>exact jQ))|(refine' qz hL ?_ rfl List.mem_cons_self (ze.cell j0 (qW (ps:=[jG,b,qD,d]) HTK2.out (k:=2) (by simp))) ?_;(case refine'_1=>exact jQ))|(refine' qz hL ?_ rfl List.mem_cons_self (ze.cell j0 (qW (ps:=[jG,b,qD,d]) HTK2.out (k:=3) (by simp))) ?_;(case refine'_1=>exact jQ))|(go_at_call 37;first|((with_reducible refine(HUB.out _).mono ?_);rintro e w1 ⟨rfl,hb⟩;replace hL:=hL.grow hb;clear hb;dsimp only)|((with_reducible refine(HUD.out _).mono ?_);rintro e w1 ⟨rfl,hb⟩;replace hL:=hL.grow hb;clear hb;dsimp only))|(with_reducible refine zd hL ?_;clear hL;intro w1 hL))
       refine rt3 ?_
       exact jD.bad HB.out hL.below
      ·have HB:=Lib.hid (HEN.out (by cases h:JS [jG,b,qD,d] with|none=>rfl|some q=>(have h2:=HQ1.out;rw[h]at h2;cases h2)))
       go_wp2_with (first|(go_at_call 36;refine(HC2.out _).mono ?_;rintro e w3 ⟨p2,n2,cap2,R2,rfl,hR2,hq⟩;obtain rfl:n2=4:=(by have:=hR2.1;simpa using this.symm);obtain⟨g2,cs2,rfl,rfl,-,htk2⟩:=hR2.blk (by omega);have HTK2:=Lib.hid htk2;clear hR2 htk2;replace hL:=(hL.gave hq).fact (S:=ja g2 9 cs2) (fun w' h=>h _ List.mem_cons_self);clear hq;simp only[List.append_nil,List.nil_append]at hL;dsimp only)|(refine zR (b:=g1) hL rfl rfl cIn (ze.cell j0 (HRD.out)) ?_)|(refine' qz hL ?_ rfl List.mem_cons_self (ze.cell j0 (qW (ps:=[jG,b,qD,d]) HTK2.out (k:=0) (by simp))) ?_;(case refine'_1=>exact jQ))|(refine' qz hL ?_ rfl List.mem_cons_self (ze.cell j0 (qW (ps:=[jG,b,qD,d]) HTK2.out (k:=1) (by simp))) ?_;(case refine'_1=>exact jQ))|(refine' qz hL ?_ rfl List.mem_cons_self (ze.cell j0 (qW (ps:=[jG,b,qD,d]) HTK2.out (k:=2) (by simp))) ?_;(case refine'_1=>exact jQ))|(refine' qz hL ?_ rfl List.mem_cons_self (ze.cell j0 (qW (ps:=[jG,b,qD,d]) HTK2.out (k:=3) (by simp))) ?_;(case refine'_1=>exact jQ))|(go_at_call 37;first|((with_reducible refine(HUB.out _).mono ?_);rintro e w1 ⟨rfl,hb⟩;replace hL:=hL.grow hb;clear hb;dsimp only)|((with_reducible refine(HUD.out _).mono ?_);rintro e w1 ⟨rfl,hb⟩;replace hL:=hL.grow hb;clear hb;dsimp only))|(with_reducible refine zd hL ?_;clear hL;intro w1 hL))
       refine rt3 ?_
       exact jD.bad HB.out hL.below
      ·have HB:=Lib.hid (HEN.out (by cases h:JS [jG,b,qD,d] with|none=>rfl|some q=>(have h2:=HQ1.out;rw[h]at h2;cases h2)))
       go_wp2_with (first|(go_at_call 36;refine(HC2.out _).mono ?_;rintro e w3 ⟨p2,n2,cap2,R2,rfl,hR2,hq⟩;obtain rfl:n2=4:=(by have:=hR2.1;simpa using this.symm);obtain⟨g2,cs2,rfl,rfl,-,htk2⟩:=hR2.blk (by omega);have HTK2:=Lib.hid htk2;clear hR2 htk2;replace hL:=(hL.gave hq).fact (S:=ja g2 9 cs2) (fun w' h=>h _ List.mem_cons_self);clear hq;simp only[List.append_nil,List.nil_append]at hL;dsimp only)|(refine zR (b:=g1) hL rfl rfl cIn (ze.cell j0 (HRD.out)) ?_)|(refine' qz hL ?_ rfl List.mem_cons_self (ze.cell j0 (qW (ps:=[jG,b,qD,d]) HTK2.out (k:=0) (by simp))) ?_;(case refine'_1=>exact jQ))|(refine' qz hL ?_ rfl List.mem_cons_self (ze.cell j0 (qW (ps:=[jG,b,qD,d]) HTK2.out (k:=1) (by simp))) ?_;(case refine'_1=>exact jQ))|(refine' qz hL ?_ rfl List.mem_cons_self (ze.cell j0 (qW (ps:=[jG,b,qD,d]) HTK2.out (k:=2) (by simp))) ?_;(case refine'_1=>exact jQ))|(refine' qz hL ?_ rfl List.mem_cons_self (ze.cell j0 (qW (ps:=[jG,b,qD,d]) HTK2.out (k:=3) (by simp))) ?_;(case refine'_1=>exact jQ))|(go_at_call 37;first|((with_reducible refine(HUB.out _).mono ?_);rintro e w1 ⟨rfl,hb⟩;replace hL:=hL.grow hb;clear hb;dsimp only)|((with_reducible refine(HUD.out _).mono ?_);rintro e w1 ⟨rfl,hb⟩;replace hL:=hL.grow hb;clear hb;dsimp only))|(with_reducible refine zd hL ?_;clear hL;intro w1 hL))
       refine rt3 ?_
       exact jD.bad HB.out hL.below
      ·have HS:=Lib.hid (show ZG s.data.toList ps 1 vb vd [] by
        cases h:JS [jG,b,qD,d] with
        | none=>have h2:=HQ1.out;rw[h]at h2;cases h2
        | some q=>
         obtain⟨q1,q2⟩:=q
         obtain⟨rfl,rfl⟩:=HQ2.out q1 q2 h
         rw[HVB.out rfl,HVD.out rfl]
         exact HES.out _ _ h)
       go_wp2_with (first|(go_at_call 36;refine(HC2.out _).mono ?_;rintro e w3 ⟨p2,n2,cap2,R2,rfl,hR2,hq⟩;obtain rfl:n2=4:=(by have:=hR2.1;simpa using this.symm);obtain⟨g2,cs2,rfl,rfl,-,htk2⟩:=hR2.blk (by omega);have HTK2:=Lib.hid htk2;clear hR2 htk2;replace hL:=(hL.gave hq).fact (S:=ja g2 9 cs2) (fun w' h=>h _ List.mem_cons_self);clear hq;simp only[List.append_nil,List.nil_append]at hL;dsimp only)|(refine zR (b:=g1) hL rfl rfl cIn (ze.cell j0 (HRD.out)) ?_)|(refine' qz hL ?_ rfl List.mem_cons_self (ze.cell j0 (qW (ps:=[jG,b,qD,d]) HTK2.out (k:=0) (by simp))) ?_;(case refine'_1=>exact jQ))|(refine' qz hL ?_ rfl List.mem_cons_self (ze.cell j0 (qW (ps:=[jG,b,qD,d]) HTK2.out (k:=1) (by simp))) ?_;(case refine'_1=>exact jQ))|(refine' qz hL ?_ rfl List.mem_cons_self (ze.cell j0 (qW (ps:=[jG,b,qD,d]) HTK2.out (k:=2) (by simp))) ?_;(case refine'_1=>exact jQ))|(refine' qz hL ?_ rfl List.mem_cons_self (ze.cell j0 (qW (ps:=[jG,b,qD,d]) HTK2.out (k:=3) (by simp))) ?_;(case refine'_1=>exact jQ))|(go_at_call 37;first|((with_reducible refine(HUB.out _).mono ?_);rintro e w1 ⟨rfl,hb⟩;replace hL:=hL.grow hb;clear hb;dsimp only)|((with_reducible refine(HUD.out _).mono ?_);rintro e w1 ⟨rfl,hb⟩;replace hL:=hL.grow hb;clear hb;dsimp only))|(with_reducible refine zd hL ?_;clear hL;intro w1 hL))
       go_roundw
       case rel=>exact⟨1,vb,vd,[],pc,cap,R,hi2,rfl,Nat.zero_le _,HS.out,HR.out,hL.drop (List.Sublist.refl _) (fun _ h=>by cases h)⟩
       case measure=>simp[intOf];omega
     ·have HB:=Lib.hid (HEN.out (GC (b:=b) (d:=d) hac))
      have hae:(a==[118,97,114,115])=false∨((a==[118,97,114,115])=true∧(c==[102,105,101,108,100,115])=false):=by
       by_cases h:a=jG
       ·exact .inr ⟨by subst h;rfl,by rw[beq_eq_false_iff_ne];exact fun h2=>hac ⟨h,h2⟩⟩
       ·exact .inl (by rw[beq_eq_false_iff_ne];exact h)
      clear hac
      rcases hae with h1|⟨h1,h2⟩
      all_goals
       go_wp2_with (first|(go_at_call 36;refine(HC2.out _).mono ?_;rintro e w3 ⟨p2,n2,cap2,R2,rfl,hR2,hq⟩;obtain rfl:n2=4:=(by have:=hR2.1;simpa using this.symm);obtain⟨g2,cs2,rfl,rfl,-,htk2⟩:=hR2.blk (by omega);have HTK2:=Lib.hid htk2;clear hR2 htk2;replace hL:=(hL.gave hq).fact (S:=ja g2 9 cs2) (fun w' h=>h _ List.mem_cons_self);clear hq;simp only[List.append_nil,List.nil_append]at hL;dsimp only)|(refine zR (b:=g1) hL rfl rfl cIn (ze.cell j0 (HRD.out)) ?_)|(refine' qz hL ?_ rfl List.mem_cons_self (ze.cell j0 (qW (ps:=[a,b,c,d]) HTK2.out (k:=0) (by simp))) ?_;(case refine'_1=>exact jQ))|(refine' qz hL ?_ rfl List.mem_cons_self (ze.cell j0 (qW (ps:=[a,b,c,d]) HTK2.out (k:=1) (by simp))) ?_;(case refine'_1=>exact jQ))|(refine' qz hL ?_ rfl List.mem_cons_self (ze.cell j0 (qW (ps:=[a,b,c,d]) HTK2.out (k:=2) (by simp))) ?_;(case refine'_1=>exact jQ))|(refine' qz hL ?_ rfl List.mem_cons_self (ze.cell j0 (qW (ps:=[a,b,c,d]) HTK2.out (k:=3) (by simp))) ?_;(case refine'_1=>exact jQ))|(with_reducible refine zd hL ?_;clear hL;intro w1 hL))
       refine rt3 ?_
       exact jD.bad HB.out hL.below
    ·have HB:=Lib.hid (HEN.out (UW h4))
     have h4b:((qs.length:Int)==4)=false:=by rw[beq_eq_false_iff_ne];omega
     clear h4
     go_wp2_with (first|(go_at_call 36;refine(HC2.out _).mono ?_;rintro e w3 ⟨p2,n2,cap2,R2,rfl,hR2,hq⟩;obtain rfl:n2=qs.length:=(by have:=hR2.1;simpa using this.symm);obtain⟨g2,cs2,rfl,rfl,-,htk2⟩:=hR2.blk (by omega);have HTK2:=Lib.hid htk2;clear hR2 htk2;replace hL:=(hL.gave hq).fact (S:=ja g2 9 cs2) (fun w' h=>h _ List.mem_cons_self);clear hq;simp only[List.append_nil,List.nil_append]at hL;dsimp only)|(refine zR (b:=g1) hL rfl rfl cIn (ze.cell j0 (HRD.out)) ?_)|(with_reducible refine zd hL ?_;clear hL;intro w1 hL))
     refine rt3 ?_
     exact jD.bad HB.out hL.below
  ·have hib:((i:Int)==0)=false:=by rw[beq_eq_false_iff_ne];omega
   by_cases hlast:i+1=ps.length
   ·have hlb:((i:Int)==((ps.length:Int) - 1))=true:=by rw[beq_iff_eq];omega
    by_cases he:ps.getD i []=[]
    ·have HOK:=Lib.hid (HAT.out.done hi1 hlast he)
     have HCK:=Lib.hid (fun w' (hc:qc w' ⟨v,f,pc,done.length,cap⟩ (qA done))=>Ke ⟨v,f,pc,done.length,cap⟩ (qA done) w' hc (by show done.length≤_;omega))
     rw[show zl ⟨v,f,pc,done.length,cap⟩ (qA done)=yh v f done from rfl]at HCK
     rw[he]at HRD
     clear he hlen
     go_upto_region 24 with(first|(refine zR (b:=g1) hL rfl rfl cIn (ze.cell j0 (HRD.out)) ?_))
     clear hlb hib
     by_cases hz:yh v f done=0
     ·have HB:=Lib.hid (G6 hl HOK.out hz)
      rw[hz]at HCK
      clear hz
      go_wp2_with (first|(go_at_call 22;refine(HCK.out _ (HR.out.code (hL.ownOf (List.sublist_append_right [_,_,_] R)))).mono ?_;rintro e w1 ⟨rfl,hb⟩;replace hL:=hL.grow hb;clear hb;dsimp only)|(with_reducible first|refine lld hL ?_|(refine zd hL ?_;clear hL;intro w1 hL)))
      refine rt3 ?_
      exact⟨⟨v,f,pc,done.length,cap⟩,done,by rw[HB.out];rfl,⟨rfl,by show done.length≤_;omega,HR.out.code (hL.ownOf (List.sublist_append_right [_,_,_] R))⟩,hL.below,fun h=>(by rw[HB.out]at h;cases h),fun g js h=>(by rw[HB.out]at h;cases h;exact⟨rfl,rfl,rfl⟩)⟩
     ·have HB:=Lib.hid (Xy hl HOK.out hz)
      have hzb:(yh v f done != 0)=true:=by simpa using hz
      generalize yh v f done=ck at HB HCK hzb
      clear hz
      go_wp2_with (first|(go_at_call 22;refine(HCK.out _ (HR.out.code (hL.ownOf (List.sublist_append_right [_,_,_] R)))).mono ?_;rintro e w1 ⟨rfl,hb⟩;replace hL:=hL.grow hb;clear hb;dsimp only)|(with_reducible first|refine lld hL ?_|(refine zd hL ?_;clear hL;intro w1 hL)))
      refine rt3 ?_
      exact jD.bad HB.out hL.below
    ·have HB:=Lib.hid (show qT s.data.toList=(none,(i:Int)+1,1) from j8 hl (HAT.out.last hi1 hlast he))
     have hie:(ps.getD i []).isEmpty=false:=by simpa using he
     have HI:=Lib.hid (fun w'=>zcd (ps.getD i []) (by omega) w')
     generalize ps.getD i []=li at HRD hie HI
     generalize (jZ li).isSome=iss at HI
     clear he hlen
     go_wp2_with (first|(go_at_call 38;refine(HI.out _).mono ?_;rintro e w3 ⟨⟨xk,xt,xa,xb,xn,xg⟩,rfl,hxi,hb⟩;have HXI:=Lib.hid hxi;clear hxi;replace hL:=hL.grow hb;clear hb;dsimp only)|((with_reducible refine lal hL ?_);clear hL;intro bi w1 hL)|(refine zz (z:=[.int .i64 0,.int .i64 0,.int .i64 0,.int .i64 0,.int .i64 0,.int .i64 0]) (K:=_::_::_::_::_::[]) (R:=R) (news:=Ins.cells ⟨xk,xt,xa,xb,xn,xg⟩) HR.out hL rfl rfl rfl Ys Vi (by decide) rfl (fun _=>⟨⟨bl,0,none⟩,rfl,fun j u hj=>by rw[zH,Nat.zero_add];exact zF (hL.heap cIn) j hj⟩) rfl (by simp[Value.oneCell']) (by have:maxLen=9223372036854775807:=rfl;omega) (by omega) ?_;clear hL;intro p5 cap5 R5 w5 hS5 hL;simp only[List.cons_append,List.nil_append]at hL;have HS5:=Lib.hid hS5;clear hS5)|(refine zR (b:=g1) hL rfl rfl cIn (ze.cell j0 (HRD.out)) ?_)|(with_reducible first|refine lld hL ?_|(refine lbs hL ?_;clear hL;intro bl w1 hL)|(refine zd hL ?_;clear hL;intro w1 hL)))
     refine rt3 ?_
     exact jD.bad HB.out hL.below
   ·have hlb:((i:Int)==((ps.length:Int) - 1))=false:=by rw[beq_eq_false_iff_ne];omega
    have hi2:i+1<ps.length:=by omega
    have HI:=Lib.hid (fun w'=>zcd (ps.getD i []) (by omega) w')
    cases hh:jZ (ps.getD i []) with
    | none=>
     have HB:=Lib.hid (show qT s.data.toList=(none,(i:Int)+1,1) from j8 hl (HAT.out.none hi1 hi2 hh))
     rw[hh]at HI
     generalize ps.getD i []=li at HRD HI
     clear hh hlen hlast
     go_wp2_with (first|(go_at_call 38;refine(HI.out _).mono ?_;rintro e w3 ⟨⟨xk,xt,xa,xb,xn,xg⟩,rfl,hxi,hb⟩;have HXI:=Lib.hid hxi;clear hxi;replace hL:=hL.grow hb;clear hb;dsimp only)|((with_reducible refine lal hL ?_);clear hL;intro bi w1 hL)|(refine zz (z:=[.int .i64 0,.int .i64 0,.int .i64 0,.int .i64 0,.int .i64 0,.int .i64 0]) (K:=_::_::_::_::_::[]) (R:=R) (news:=Ins.cells ⟨xk,xt,xa,xb,xn,xg⟩) HR.out hL rfl rfl rfl Ys Vi (by decide) rfl (fun _=>⟨⟨bl,0,none⟩,rfl,fun j u hj=>by rw[zH,Nat.zero_add];exact zF (hL.heap cIn) j hj⟩) rfl (by simp[Value.oneCell']) (by have:maxLen=9223372036854775807:=rfl;omega) (by omega) ?_;clear hL;intro p5 cap5 R5 w5 hS5 hL;simp only[List.cons_append,List.nil_append]at hL;have HS5:=Lib.hid hS5;clear hS5)|(refine zR (b:=g1) hL rfl rfl cIn (ze.cell j0 (HRD.out)) ?_)|(with_reducible first|refine lld hL ?_|(refine lbs hL ?_;clear hL;intro bl w1 hL)|(refine zd hL ?_;clear hL;intro w1 hL)))
     refine rt3 ?_
     exact jD.bad HB.out hL.below
    | some x=>
     have HA:=Lib.hid (HAT.out.some hi1 hi2 hh)
     rw[hh]at HI
     generalize ps.getD i []=li at HRD HI
     clear hh hlen hlast
     go_wp2_with (first|(go_at_call 38;refine(HI.out _).mono ?_;rintro e w3 ⟨⟨xk,xt,xa,xb,xn,xg⟩,rfl,hxi,hb⟩;have HXI:=Lib.hid hxi;clear hxi;replace hL:=hL.grow hb;clear hb;dsimp only)|((with_reducible refine lal hL ?_);clear hL;intro bi w1 hL)|(refine zz (z:=[.int .i64 0,.int .i64 0,.int .i64 0,.int .i64 0,.int .i64 0,.int .i64 0]) (K:=_::_::_::_::_::[]) (R:=R) (news:=Ins.cells ⟨xk,xt,xa,xb,xn,xg⟩) HR.out hL rfl rfl rfl Ys Vi (by decide) rfl (fun _=>⟨⟨bl,0,none⟩,rfl,fun j u hj=>by rw[zH,Nat.zero_add];exact zF (hL.heap cIn) j hj⟩) rfl (by simp[Value.oneCell']) (by have:maxLen=9223372036854775807:=rfl;omega) (by omega) ?_;clear hL;intro p5 cap5 R5 w5 hS5 hL;simp only[List.cons_append,List.nil_append]at hL;have HS5:=Lib.hid hS5;clear hS5)|(refine zR (b:=g1) hL rfl rfl cIn (ze.cell j0 (HRD.out)) ?_)|(with_reducible first|refine lld hL ?_|(refine lbs hL ?_;clear hL;intro bl w1 hL)|(refine zd hL ?_;clear hL;intro w1 hL)))
     go_roundw
     case rel=>
      refine⟨i+1,v,f,done++[x],p5,cap5,R5,hi2,by go_num,by simp;omega,HA.out,?_,?_⟩
      ·obtain rfl:=HXI.out x rfl
       rw[List.flatMap_append,List.length_append]
       simpa using HS5.out
      ·rw[List.length_append]
       exact hL.drop (.cons _ (.cons _ (List.Sublist.refl _))) (fun _ h=>h)
     case measure=>simp[intOf];omega
end Go.Proofs.YtplcndmdkabmeaaGreatDoor
