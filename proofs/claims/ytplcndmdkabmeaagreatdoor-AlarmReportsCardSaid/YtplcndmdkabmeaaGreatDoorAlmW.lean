/- Plain: which lines and programs the parsing of a text tells; what is printed of alarms. Conditions: none. | The law AlarmReports: whatever text it is handed it returns true. Conditions: the library's variables. -/
import Derived.Test.YtplcndmdkabmeaaGreatDoorRepS
import Derived.Test.YtplcndmdkabmeaaGreatDoorAlmR
import Derived.Test.YtplcndmdkabmeaaGreatDoorAlmB
import Derived.Test.YtplcndmdkabmeaaGreatDoorRParse
import Derived.Test.YtplcndmdkabmeaaGreatDoorRUnd
import Derived.Test.YtplcndmdkabmeaaGreatDoorGua
set_option linter.unusedSimpArgs false
set_option linter.unusedVariables false
set_option maxRecDepth 100000
namespace Go.Proofs.YtplcndmdkabmeaaGreatDoor
open Go.RowKit
theorem Xk:∀ (r:List Byt) (n m:Nat),Qp n r=.error m→m≤n+r.length
 | [],n,m,h=>by rw[Qp]at h;cases h
 | [l],n,m,h=>by
  unfold Qp at h
  split at h
  ·cases h
  ·cases h;omega
 | l::q::r,n,m,h=>by
  rw[Jv (by simp)]at h
  cases hi:jZ l with
  | none=>rw[hi]at h;cases h;omega
  | some i=>
   rw[hi]at h
   dsimp only at h
   cases hb:Qp (n+1) (q::r) with
   | ok js=>rw[hb]at h;cases h
   | error k=>
    rw[hb]at h
    cases h
    have:=Xk (q::r) (n+1) m hb
    simp only[List.length_cons]at this ⊢
    omega
theorem za3 {l:Byt}{m:Nat}(h:jw l=.error m):m≤l.length+3:=by
 have hc:=yd 10 l
 unfold jw at h
 cases hp:zE 10 l with
 | nil=>exact absurd hp (jK _ _)
 | cons x r=>
  rw[hp]at h hc
  simp only[List.length_cons]at hc
  unfold Z4 at h
  dsimp only at h
  split at h
  ·cases h;omega
  ·cases hh:Ju x with
   | none=>rw[hh]at h;cases h;omega
   | some q=>
    rw[hh]at h
    dsimp only at h
    cases hb:Qp 2 r with
    | ok js=>rw[hb]at h;cases h
    | error k=>
     rw[hb]at h
     cases h
     have:=Xk r 2 m hb
     omega
theorem za4 {l:Byt}(hl:l.length≤4000):0≤(qT l).2.1∧(qT l).2.1≤1000000:=by
 unfold qT
 rw[if_neg (by omega)]
 split
 ·rename_i n hp
  have:=za3 hp
  dsimp only
  omega
 ·split<;>(dsimp only;omega)
theorem zdR {l:Byt}(h:(qT l).2.2=0):∃ v f is,qT l=(some ((v,f),is),0,0)∧yh v f is=0:=by
 unfold qT at h ⊢
 split at h
 ·cases h
 ·split at h
  ·cases h
  ·split at h
   ·rename_i g js hp hz
    refine⟨g.1,g.2,js,?_,hz⟩
    rw[if_neg (by assumption)]
    rw[if_pos hz]
   ·contradiction
set_option maxHeartbeats 3200000
theorem Xl (n:Int):(yO n).data.toList=Lib.itoa n:=rfl
theorem JB.reads2 {w:World}{s:Sl}{l:List (Int × Int)}(h:JB w s l):∃ b o:Nat,(0<s.n→s.p=some ⟨b,o,none⟩)∧∀ k,k<s.n→zg Tryz.prog 3 w b (o+k*2) (.int .i64 (l.getD k (0,0)).1)∧zg Tryz.prog 3 w b (o+k*2+1) (.int .i64 (l.getD k (0,0)).2):=by
 obtain⟨b,o,h1,h2⟩:=h.ex.ex
 exact⟨b,o,h1,fun k hk=>⟨zg.cell QQ (h2 k hk).1 ((h2 k hk).2 0 _ rfl),zg.cell QQ (h2 k hk).1 ((h2 k hk).2 1 _ rfl)⟩⟩
theorem XX {nv nf:Nat}{is:List Ins}{t:Byt}{k:Nat}(h:Jo nv nf is t) (hE:yG (qA is) is.length (zB nv nf is.length) k):t=yH (jP (qA is) (qZ (qA is) is.length (zB nv nf is.length) (k+1)) is.length):=by
 obtain⟨a,b,j,ha,hb,hj,rfl⟩:=h
 obtain rfl:nv=a:=by omega
 obtain rfl:nf=b:=by omega
 rw[hE.one hj]
theorem XY (s:ByteArray) (w:World) (hg:yI w) (hm:s.size≤9223372036854775807) (hb:4000<s.size):
  Calls Tryz.prog 3 #[.string s] w fun e w'=>e=.returned (.bool true)∧Below w.heap.size w w':=by
 have HRE:=Lib.hid (fun w' (h:yI w')=>GN s w' h hm hb)
 have HP:=Lib.hid (fun w'=>Y1 s w' hm)
 have HAB:=Lib.hid (fun w' (h:yI w')=>JA w' h)
 have HG:=Lib.hid hg
 unfold jD at HP
 generalize (qT s.data.toList).2.2=er at *
 generalize (qT s.data.toList).2.1=ln at *
 clear hg
 have hL:=Loc.start w
 go_enter Tryz.func3,Tryz.ntmps3
 go_wp2_with (first|(go_at_call 7;refine(HRE.out _ (HG.out.grow hL.below)).mono ?_;rintro e w1 ⟨rfl,hb⟩;replace hL:=hL.grow hb;clear hb;dsimp only)|(go_at_call 8;refine(HP.out _).mono ?_;rintro e w1 ⟨⟨v1,f1,pc1,n1,c1⟩,is1,rfl,-,hb1,-,-⟩;replace hL:=hL.grow hb1;clear hb1;dsimp only)|(go_at_call 9;refine(HAB.out _ (HG.out.grow hL.below)).mono ?_;rintro e w1 ⟨rfl,hb⟩;replace hL:=hL.grow hb;clear hb;dsimp only)|(with_reducible first|(refine lal hL ?_;clear hL;intro bl w1 hL)|(refine zd hL ?_;clear hL;intro w1 hL)))
 refine rt1 ?_
 exact⟨rfl,hL.below⟩
theorem GO (s:ByteArray) (w:World) (hg:yI w) (hb:s.size≤4000) (hr:(qT s.data.toList).2.2≠0):
  Calls Tryz.prog 3 #[.string s] w fun e w'=>e=.returned (.bool true)∧Below w.heap.size w w':=by
 have hl:=za4 (l:=s.data.toList) (by rw[Array.length_toList];exact hb)
 have hre:=fun w' (h:yI w')=>za2 s w' h hb hr hl
 have HP:=Lib.hid (fun w'=>Y1 s w' (by omega))
 have HAB:=Lib.hid (fun w' (h:yI w')=>JA w' h)
 have HG:=Lib.hid hg
 unfold jD at HP
 generalize (qT s.data.toList).2.2=er at *
 generalize (qT s.data.toList).2.1=ln at *
 have HD:=Lib.hid (fun w'=>JV ln (by omega) w')
 have hds:(yO ln).size≤21:=QF (by omega)
 obtain⟨T,hT⟩:∃ T:ByteArray,T=⟨(zdQ++Lib.itoa ln++[10]).toArray⟩:=⟨_,rfl⟩
 have HTT:=Lib.hid (show (⟨#[101,114,114,111,114,32]⟩:ByteArray)++yO ln++(⟨#[10]⟩:ByteArray)=T by rw[hT];simp only[yD,zdQ,Xl])
 simp only[yM,← hT]at hre
 have HRE:=Lib.hid hre
 generalize yO ln=D at *
 have hne:(er != 0)=true:=by simpa using hr
 clear hg hl hT hre hr
 have hL:=Loc.start w
 go_enter Tryz.func3,Tryz.ntmps3
 go_upto_region 19 with(first|(go_at_call 7;refine(HRE.out _ (HG.out.grow hL.below)).mono ?_;rintro e w1 ⟨rfl,hb⟩;replace hL:=hL.grow hb;clear hb;dsimp only)|(go_at_call 8;refine(HP.out _).mono ?_;rintro e w1 ⟨⟨v1,f1,pc1,n1,c1⟩,is1,rfl,-,hb1,-,-⟩;replace hL:=hL.grow hb1;clear hb1;dsimp only)|(go_at_call 10;refine(HD.out _).mono ?_;rintro e w1 ⟨rfl,hb⟩;replace hL:=hL.grow hb;clear hb;dsimp only)|(with_reducible first|(refine lal hL ?_;clear hL;intro bl w1 hL)|(refine zd hL ?_;clear hL;intro w1 hL)))
 simp only[HTT.out]
 go_wp2_with (first|(go_at_call 9;refine(HAB.out _ (HG.out.grow hL.below)).mono ?_;rintro e w1 ⟨rfl,hb⟩;replace hL:=hL.grow hb;clear hb;dsimp only))
 refine rt1 ?_
 exact⟨rfl,hL.below⟩
theorem XZ (s:ByteArray) (v f:Int) (is:List Ins) (w:World) (hg:yI w) (hb:s.size≤4000) (hr:qT s.data.toList=(some ((v,f),is),0,0)) (hck:yh v f is=0):
  Calls Tryz.prog 3 #[.string s] w fun e w'=>e=.returned (.bool true)∧Below w.heap.size w w':=by
 have hre:=fun w' (h:yI w')=>Ug s v f is w' h hb hr hck
 have hsm:=(zx (p:=⟨v,f,none,is.length,0⟩) (is:=qA is) hck).1
 obtain⟨nv,hv⟩:∃ nv:Nat,v=nv:=⟨v.toNat,by have:=hsm.v1;dsimp only at this;omega⟩
 obtain⟨nf,hf⟩:∃ nf:Nat,f=nf:=⟨f.toNat,by have:=hsm.f1;dsimp only at this;omega⟩
 have h60:is.length≤60:=hsm.n1
 subst hv hf
 have HRE:=Lib.hid hre
 have HP:=Lib.hid (show ∀ w',Calls Tryz.prog 8 #[.string s] w' fun e w''=>∃ (pc:Option Addr) (cap:Nat),e=.returned (.tuple #[Pg.v ⟨nv,nf,pc,is.length,cap⟩,.int .i64 0,.int .i64 0])∧qc w'' ⟨nv,nf,pc,is.length,cap⟩ (qA is)∧Below w'.heap.size w' w'' from fun w'=>by
  refine(Y1 s w' (by omega)).mono ?_
  rintro e w'' ⟨⟨v1,f1,pc1,n1,c1⟩,is1,rfl,hpg,hb,-,hs⟩
  rw[hr]at hs ⊢
  obtain⟨h1,h2,h3⟩:=hs _ is rfl
  dsimp only at h1 h2
  subst h1 h2 h3
  obtain rfl:n1=is1.length:=hpg.n
  exact⟨pc1,c1,rfl,hpg.at',hb⟩)
 have HAL:=Lib.hid (fun (pc:Option Addr) (cap:Nat) w' (hc:qc w' ⟨nv,nf,pc,is.length,cap⟩ (qA is))=>zaK ⟨nv,nf,pc,is.length,cap⟩ (qA is) nv nf rfl rfl hck w' hc)
 have HAB:=Lib.hid (fun w' (h:yI w')=>JA w' h)
 have HG:=Lib.hid hg
 have HUL:=Lib.hid (fun l=>Jf (qA is) l is.length)
 have HUM:=Lib.hid (fun l x (hx:x∈jP (qA is) l is.length)=>Xf hx)
 have HON:=Lib.hid (fun t k (h:Jo nv nf is t) (hE:yG (qA is) is.length (zB nv nf is.length) k)=>XX h hE)
 clear hg hr hck hsm hre
 generalize Jo nv nf is=RP at *
 generalize qA is=isf at *
 generalize is.length=n at *
 dsimp only at HAL
 have hL:=Loc.start w
 go_enter Tryz.func3,Tryz.ntmps3
 go_upto_region 2 with(first|(go_at_call 7;refine(HRE.out _ (HG.out.grow hL.below)).mono ?_;rintro e w1 ⟨t,rfl,hR,hb1⟩;replace hL:=hL.grow hb1;have HR:=Lib.hid hR;clear hb1 hR;dsimp only))
 go_upto_region 3 with(first|(go_at_call 8;refine(HP.out _).mono ?_;rintro e w1 ⟨pc,cap,rfl,hC,hb1⟩;replace hL:=hL.grow hb1;have HC:=Lib.hid hC;have HB:=Lib.hid hL.below;have HG1:=Lib.hid (HG.out.grow hL.below);clear hb1 hC hL HG HP;have hL:=Loc.start w1;dsimp only)|(with_reducible first|(refine lal hL ?_;clear hL;intro bl w1 hL)|(refine zd hL ?_;clear hL;intro w1 hL)))
 go_upto_region 9 with(first|(go_at_call 11;refine(HAL.out _ _ _ (HC.out.grow hL.below)).mono ?_;rintro e w3 ⟨k,⟨sp,sn,sc⟩,rfl,hE,hA,hb3⟩;replace hL:=hL.grow hb3;have HB3:=Lib.hid (HB.out.trans (hL.below.mono HB.out.size));have HG3:=Lib.hid (HG1.out.grow hL.below);have HA:=Lib.hid hA;have ht:=HON.out _ k HR.out hE;have hul:=HUL.out (qZ isf n (zB nv nf n) (k+1));have hum:=HUM.out (qZ isf n (zB nv nf n) (k+1));clear hb3 hA hE hL HG1 HB HC HAL HR HON;have hL:=Loc.start w3;dsimp only[Sl.v])|(with_reducible refine lld hL ?_))
 generalize jP isf (qZ isf n (zB nv nf n) (k+1)) n=al at *
 subst ht
 obtain⟨bA,hbA⟩:∃ bA:ByteArray,bA=⟨(yH al).toArray⟩:=⟨_,rfl⟩
 simp only[yM,← hbA]
 have HBA:=Lib.hid hbA
 clear hbA
 have hn1:=HA.out.n
 dsimp only at hn1
 obtain⟨b3,o3,hp3,hr3⟩:=HA.out.reads2
 dsimp only at hp3 hr3
 have HP3:=Lib.hid hp3
 have HR3:=Lib.hid hr3
 have HUL2:=Lib.hid (fun i=>(Xh (al:=al.take i) (fun x hx=>Xg (hum x (List.mem_of_mem_take hx)).1.1 (by have:=(hum x (List.mem_of_mem_take hx)).1.2;omega))))
 have HUM2:=Lib.hid hum
 have HN1:=Lib.hid (hn1:sn=al.length)
 have hsn:sn≤1000:=by omega
 clear hp3 hr3 hum HA HUL HUM hn1
 obtain⟨wq,hwq⟩:∃ x,x=w3:=⟨_,rfl⟩
 subst hwq
 go_wp2
 go_loopw [8,10,11] (fun c8 c10 c11 wr=>∃ i:Nat,i≤sn∧c10=.int .i64 i∧c8=yM (yH (al.take i))∧Loc wq wr [] []) (fun _ c _ _=>sn - (intOf c).toNat)
 case atStart=>exact⟨0,Nat.zero_le _,rfl,rfl,hL⟩
 case round=>
  clear hL
  obtain⟨i,hi,rfl,rfl,hL⟩:=hrel
  by_cases hlt:i<sn
  ·have HPC3:=Lib.hid (HP3.out (by omega))
   obtain rfl:=HPC3.out
   clear HPC3 HP3
   obtain⟨h30,h31⟩:=HR3.out i hlt
   have hxm:=HUM2.out _ (qX (l:=al) (d:=(0,0)) (by have:=HN1.out;omega:i<al.length))
   have htx:yH (al.take (i+1))=yH (al.take i)++Jn (al.getD i (0,0)):=by rw[Xi (by have:=HN1.out;omega),U5]
   have htl:=HUL2.out i
   rw[List.length_take]at htl
   have htl2:(yH (al.take i)).length≤7000:=by have:=HN1.out;omega
   clear htl
   generalize al.getD i (0,0)=x at h30 h31 hxm htx
   obtain⟨xa,xk⟩:=x
   obtain⟨⟨hx0,hx1⟩,hxk⟩:=hxm
   unfold Jn at htx
   dsimp only at h30 h31 hx0 hx1 hxk htx
   have hd0:=fun w'=>JV xa (by omega) w'
   have s2:(yO xa).size≤21:=QF (by omega)
   rw[← Xl]at htx
   clear hx0 hx1
   generalize yO xa=bI at *
   generalize yH (al.take i)=T at *
   obtain⟨bT,hbT⟩:∃ bT:ByteArray,bT=⟨T.toArray⟩:=⟨_,rfl⟩
   have hT1:T=bT.data.toList:=by rw[hbT]
   have hT2:bT.size≤7000:=by rw[hbT];show T.toArray.size≤_;rw[List.size_toArray];exact htl2
   simp only[yM,← hbT]
   rw[hT1]at htx
   clear hT1 hbT htl2
   have H30:=Lib.hid h30
   have H31:=Lib.hid h31
   have HTX:=Lib.hid htx
   have HD:=Lib.hid hd0
   clear h30 h31 htx hd0
   rcases hxk with hk1|hk2|hk3
   ·subst hk1
    go_wp2_with (first|(with_reducible refine ldB H31.out hL ?_)|(with_reducible refine ldB H30.out hL ?_)|(go_at_call 10;refine(HD.out _).mono ?_;rintro e w1 ⟨rfl,hb⟩;replace hL:=hL.grow hb;clear hb;dsimp only))
    go_roundw
    case rel=>exact⟨i+1,by omega,by go_num,by(rw[HTX.out];simp only[yD];first|rfl|simp[Jn,Kk]),hL⟩
    case measure=>simp[intOf];omega
   ·subst hk2
    go_wp2_with (first|(with_reducible refine ldB H31.out hL ?_)|(with_reducible refine ldB H30.out hL ?_)|(go_at_call 10;refine(HD.out _).mono ?_;rintro e w1 ⟨rfl,hb⟩;replace hL:=hL.grow hb;clear hb;dsimp only))
    go_roundw
    case rel=>exact⟨i+1,by omega,by go_num,by(rw[HTX.out];simp only[yD];first|rfl|simp[Jn,Kk]),hL⟩
    case measure=>simp[intOf];omega
   ·subst hk3
    go_wp2_with (first|(with_reducible refine ldB H31.out hL ?_)|(with_reducible refine ldB H30.out hL ?_)|(go_at_call 10;refine(HD.out _).mono ?_;rintro e w1 ⟨rfl,hb⟩;replace hL:=hL.grow hb;clear hb;dsimp only))
    go_roundw
    case rel=>exact⟨i+1,by omega,by go_num,by(rw[HTX.out];simp only[yD];first|rfl|simp[Jn,Kk]),hL⟩
    case measure=>simp[intOf];omega
  ·obtain rfl:i=sn:=by omega
   rw[List.take_of_length_le (by have:=HN1.out;omega)]
   clear HUL2 HUM2 HR3 hul HN1
   simp only[yM,← HBA.out]
   go_wp2_with (first|(go_at_call 9;refine(HAB.out _ (HG3.out.grow hL.below)).mono ?_;rintro e w1 ⟨rfl,hb⟩;replace hL:=hL.grow hb;clear hb;dsimp only))
   refine rt1 ?_
   exact⟨by first|rfl|simp,HB3.out.trans (hL.below.mono HB3.out.size)⟩
theorem GP (s:ByteArray) (hm:s.size≤9223372036854775807) (w:World) (hg:yI w):
  Calls Tryz.prog 3 #[.string s] w fun e w'=>e=.returned (.bool true)∧Below w.heap.size w w':=by
 by_cases hb:4000<s.size
 ·exact XY s w hg hm hb
 ·by_cases hr:(qT s.data.toList).2.2=0
  ·obtain⟨v,f,is,h1,h2⟩:=zdR hr
   exact XZ s v f is w hg (by omega) h1 h2
  ·exact GO s w hg (by omega) hr
end Go.Proofs.YtplcndmdkabmeaaGreatDoor
