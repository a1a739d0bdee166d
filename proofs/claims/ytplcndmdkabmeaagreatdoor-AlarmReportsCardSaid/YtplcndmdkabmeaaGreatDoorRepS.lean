/- The walk over Report. Conditions: the library's variables. -/
import Derived.Test.YtplcndmdkabmeaaGreatDoorAlmS
import Derived.Test.YtplcndmdkabmeaaGreatDoorParse
set_option linter.unusedSimpArgs false
set_option linter.unusedVariables false
set_option maxRecDepth 100000
set_option maxHeartbeats 3200000
namespace Go.Proofs.YtplcndmdkabmeaaGreatDoor
open Go.RowKit
def Kk (k:Int):Byt:=if k=1 then [32,119,114,111,110,103] else if k=2 then [32,102,97,105,108,101,100] else [32,105,100,108,101]
def Jn (x:Int × Int):Byt:=Lib.itoa x.1++Kk x.2++[10]
def yH (al:List (Int × Int)):Byt:=al.flatMap Jn
theorem U5 (al:List (Int × Int)) (x:Int × Int):yH (al++[x])=yH al++Jn x:=by simp[yH]
theorem Xf {is:Nat→Ins}{l:List Pd}{n:Nat}{x:Int × Int}(h:x∈jP is l n):(0≤x.1∧x.1<n)∧(x.2=1∨x.2=2∨x.2=3):=by
 unfold jP KK at h
 obtain⟨i,hi,hx⟩:=List.mem_flatMap.1 h
 obtain⟨j,hj,rfl⟩:=List.mem_map.1 hx
 obtain⟨hj1,hj2⟩:=List.mem_filter.1 hj
 have h1:=List.mem_range.1 hi
 have h2:=List.mem_range.1 hj1
 refine⟨⟨by simp,by simp;omega⟩,?_⟩
 rcases (show j=0∨j=1∨j=2∨j=3 by omega) with rfl|rfl|rfl|rfl
 ·simp[zcr]at hj2
 ·exact .inl rfl
 ·exact .inr (.inl rfl)
 ·exact .inr (.inr rfl)
theorem zcH (k:Int):(Kk k).length≤7:=by unfold Kk;split;decide;split;decide;decide
theorem Xg {x:Int × Int}(h0:0≤x.1) (h1:x.1<60):(Jn x).length≤29:=by
 have h2:(Lib.itoa x.1).length≤21:=Lib.itoa_length_le _ (by omega) (by omega)
 have h3:=zcH x.2
 unfold Jn
 simp only[List.length_append,List.length_cons,List.length_nil]
 omega
theorem Xh {al:List (Int × Int)}(h:∀ x∈al,(Jn x).length≤29):(yH al).length≤29*al.length:=by
 induction al with
 | nil=>simp[yH]
 | cons x al ih=>
  have h1:=h x List.mem_cons_self
  have h2:=ih (fun y hy=>h y (List.mem_cons_of_mem _ hy))
  unfold yH at h2 ⊢
  rw[List.flatMap_cons,List.length_append,List.length_cons]
  omega
theorem Xi {al:List (Int × Int)}{i:Nat}(h:i<al.length):al.take (i+1)=al.take i++[al.getD i (0,0)]:=by
 rw[List.take_add_one,List.getElem?_eq_getElem h,List.getD_eq_getElem?_getD,List.getElem?_eq_getElem h]
 rfl
theorem yD (a b:ByteArray):a++b=⟨(a.data.toList++b.data.toList).toArray⟩:=by
 apply ByteArray.ext
 apply Array.toList_inj.1
 simp
theorem JB.reads1 {w:World}{s:Sl}{l:List (Int × Int)}(h:JB w s l):∃ b o:Nat,(0<s.n→s.p=some ⟨b,o,none⟩)∧∀ k,k<s.n→zg Tryz.prog 35 w b (o+k*2) (.agg #[.int .i64 (l.getD k (0,0)).1,.int .i64 (l.getD k (0,0)).2]):=by
 obtain⟨b,o,h1,h2⟩:=h.ex.ex
 exact⟨b,o,h1,fun k hk=>zg.agg Y6 (h2 k hk).1 (h2 k hk).2 rfl⟩
def zdQ:Byt:=[101,114,114,111,114,32]
theorem GN (s:ByteArray) (w:World) (hg:yI w) (hm:s.size≤9223372036854775807) (hb:4000<s.size):
  Calls Tryz.prog 7 #[.string s] w fun e w'=>e=.returned (.tuple #[yM [],.int .i64 2])∧Below w.heap.size w w':=by
 have HP:=Lib.hid (fun w' (h:yI w')=>KW s w' h hm)
 have HG:=Lib.hid hg
 clear hg
 have hL:=Loc.start w
 go_enter Tryz.func7,Tryz.ntmps7
 go_wp2_with (first|(go_at_call 33;refine(HP.out _ (HG.out.grow hL.below)).mono ?_;rintro e w1 ⟨⟨v1,f1,pc1,n1,c1⟩,is1,rfl,-,hb1,-,-⟩;replace hL:=hL.grow hb1;clear hb1;dsimp only)|(with_reducible first|(refine lal hL ?_;clear hL;intro bl w1 hL)|(refine zd hL ?_;clear hL;intro w1 hL)))
 refine rt2 ?_
 exact⟨rfl,hL.below⟩
theorem za2 (s:ByteArray) (w:World) (hg:yI w) (hb:s.size≤4000) (hr:(qT s.data.toList).2.2≠0) (hl:0≤(qT s.data.toList).2.1∧(qT s.data.toList).2.1≤1000000):
  Calls Tryz.prog 7 #[.string s] w fun e w'=>e=.returned (.tuple #[yM (zdQ++Lib.itoa (qT s.data.toList).2.1++[10]),.int .i64 0])∧Below w.heap.size w w':=by
 have HP:=Lib.hid (fun w' (h:yI w')=>KW s w' h (by omega))
 have HG:=Lib.hid hg
 unfold jD at HP
 generalize (qT s.data.toList).2.2=er at *
 generalize (qT s.data.toList).2.1=ln at *
 have HI:=Lib.hid (fun w' (hb' : Below w.heap.size w w')=>zdA ln (by omega) (by omega) w' (HG.out.grow hb'))
 have s1:(({ data:=(Lib.itoa ln).toArray }:ByteArray)).size≤21:=by show (Lib.itoa ln).toArray.size≤21;rw[List.size_toArray];exact Lib.itoa_length_le _ (by omega) (by omega)
 have s2:(Lib.itoa ln).length≤21:=Lib.itoa_length_le _ (by omega) (by omega)
 clear hg hl
 have hL:=Loc.start w
 go_enter Tryz.func7,Tryz.ntmps7
 go_wp2_with (first|(go_at_call 33;refine(HP.out _ (HG.out.grow hL.below)).mono ?_;rintro e w1 ⟨⟨v1,f1,pc1,n1,c1⟩,is1,rfl,-,hb1,-,-⟩;replace hL:=hL.grow hb1;clear hb1;dsimp only)|(go_at_call 34;refine(HI.out _ hL.below).mono ?_;rintro e w3 ⟨rfl,hb⟩;replace hL:=hL.grow hb;clear hb;dsimp only)|(with_reducible first|(refine lal hL ?_;clear hL;intro bl w1 hL)|(refine zd hL ?_;clear hL;intro w1 hL)))
 refine rt2 ?_
 exact⟨by first|(simp only[yD,zdQ];rfl)|(simp[yD,zdQ]),hL.below⟩
def Kl (off:Nat):Value→World→Prop:=fun v w=>∃ b,v=.pointer (some ⟨b,off,none⟩)∧w.heap[b]? = some (.cells #[.string ⟨#[]⟩,.string ⟨#[32,119,114,111,110,103]⟩,.string ⟨#[32,102,97,105,108,101,100]⟩,.string ⟨#[32,105,100,108,101]⟩] 9 (0,0))
theorem Kl.stable {off:Nat}:jC (Kl off):=by
 rintro v w w' hb ⟨b,h1,h2⟩
 exact⟨b,h1,by rw[hb.block _ (zL h2)];exact h2⟩
def Jo (v f:Int) (is:List Ins) (t:Byt):Prop:=∃ (nv nf k:Nat),v=nv∧f=nf∧yG (qA is) is.length (zB nv nf is.length) k∧t=yH (jP (qA is) (qZ (qA is) is.length (zB nv nf is.length) (k+1)) is.length)
theorem Ug (s:ByteArray) (v f:Int) (is:List Ins) (w:World) (hg:yI w) (hb:s.size≤4000) (hr:qT s.data.toList=(some ((v,f),is),0,0)) (hck:yh v f is=0):
  Calls Tryz.prog 7 #[.string s] w fun e w'=>∃ t,e=.returned (.tuple #[yM t,.int .i64 0])∧Jo v f is t∧Below w.heap.size w w':=by
 have hsm:=(zx (p:=⟨v,f,none,is.length,0⟩) (is:=qA is) hck).1
 obtain⟨nv,hv⟩:∃ nv:Nat,v=nv:=⟨v.toNat,by have:=hsm.v1;dsimp only at this;omega⟩
 obtain⟨nf,hf⟩:∃ nf:Nat,f=nf:=⟨f.toNat,by have:=hsm.f1;dsimp only at this;omega⟩
 have h60:is.length≤60:=hsm.n1
 subst hv hf
 have HP:=Lib.hid (show ∀ w',yI w'→Calls Tryz.prog 33 #[.string s] w' fun e w''=>∃ (pc:Option Addr) (cap:Nat),e=.returned (.tuple #[Pg.v ⟨nv,nf,pc,is.length,cap⟩,.int .i64 0,.int .i64 0])∧qc w'' ⟨nv,nf,pc,is.length,cap⟩ (qA is)∧Below w'.heap.size w' w'' from fun w' hg'=>by
  refine(KW s w' hg' (by omega)).mono ?_
  rintro e w'' ⟨⟨v1,f1,pc1,n1,c1⟩,is1,rfl,hpg,hb,-,hs⟩
  rw[hr]at hs ⊢
  obtain⟨h1,h2,h3⟩:=hs _ is rfl
  dsimp only at h1 h2
  subst h1 h2 h3
  obtain rfl:n1=is1.length:=hpg.n
  exact⟨pc1,c1,rfl,hpg.at',hb⟩)
 have HAL:=Lib.hid (fun (pc:Option Addr) (cap:Nat) w' (hc:qc w' ⟨nv,nf,pc,is.length,cap⟩ (qA is))=>zco ⟨nv,nf,pc,is.length,cap⟩ (qA is) nv nf rfl rfl hck w' hc)
 have HG:=Lib.hid hg
 have HUL:=Lib.hid (fun l=>Jf (qA is) l is.length)
 have HUM:=Lib.hid (fun l x (hx:x∈jP (qA is) l is.length)=>Xf hx)
 have HRP:=Lib.hid (fun k (hE:yG (qA is) is.length (zB nv nf is.length) k)=>(show Jo nv nf is (yH (jP (qA is) (qZ (qA is) is.length (zB nv nf is.length) (k+1)) is.length)) from ⟨nv,nf,k,rfl,rfl,hE,rfl⟩))
 clear hg hr hck hsm
 generalize Jo nv nf is=RP at HRP ⊢
 generalize qA is=isf at *
 generalize is.length=n at *
 dsimp only at HAL
 have hL:=Loc.start w
 go_enter Tryz.func7,Tryz.ntmps7
 go_upto_region 2 with(first|(go_at_call 33;refine(HP.out _ (HG.out.grow hL.below)).mono ?_;rintro e w1 ⟨pc,cap,rfl,hC,hb1⟩;replace hL:=hL.grow hb1;have HB:=Lib.hid hL.below;have HC:=Lib.hid hC;have HG1:=Lib.hid (HG.out.grow hL.below);clear hb1 hC hL HG HP;have hL:=Loc.start w1;dsimp only)|((with_reducible refine lal hL ?_);clear hL;intro bq w2 hL)|(with_reducible refine zd hL ?_;clear hL;intro w1 hL))
 go_upto_region 8 with(first|(go_at_call 35;refine(HAL.out _ _ _ (HC.out.grow hL.below)).mono ?_;rintro e w3 ⟨k,⟨sp,sn,sc⟩,rfl,hE,hA,hb3⟩;replace hL:=hL.grow hb3;have HB3:=Lib.hid (HB.out.trans (hL.below.mono HB.out.size));have HG3:=Lib.hid (HG1.out.grow hL.below);have HA:=Lib.hid hA;have HT:=Lib.hid (HRP.out k hE);have hul:=HUL.out (qZ isf n (zB nv nf n) (k+1));have hum:=HUM.out (qZ isf n (zB nv nf n) (k+1));clear hb3 hA hE hL HG1 HB HC HAL HRP;have hL:=Loc.start w3;dsimp only[Sl.v])|(with_reducible refine lld hL ?_))
 generalize jP isf (qZ isf n (zB nv nf n) (k+1)) n=al at *
 have hn1:=HA.out.n
 dsimp only at hn1
 obtain⟨b3,o3,hp3,hr3⟩:=HA.out.reads1
 dsimp only at hp3 hr3
 have HP3:=Lib.hid hp3
 have HR3:=Lib.hid hr3
 have HUL2:=Lib.hid (fun i=>(Xh (al:=al.take i) (fun x hx=>Xg (hum x (List.mem_of_mem_take hx)).1.1 (by have:=(hum x (List.mem_of_mem_take hx)).1.2;omega))))
 have HUM2:=Lib.hid hum
 clear hp3 hr3 hum HA HUL HUM
 obtain⟨wq,hwq⟩:∃ x,x=w3:=⟨_,rfl⟩
 subst hwq
 go_loopw [7,30] (fun c7 c30 wr=>∃ i:Nat,i≤sn∧c30=.int .i64 i∧c7=yM (yH (al.take i))∧Loc wq wr [] []) (fun _ c _=>sn - (intOf c).toNat)
 case atStart=>exact⟨0,Nat.zero_le _,rfl,rfl,hL⟩
 case round=>
  clear hL
  obtain⟨i,hi,rfl,rfl,hL⟩:=hrel
  by_cases hlt:i<sn
  ·have HPC3:=Lib.hid (HP3.out (by omega))
   obtain rfl:=HPC3.out
   clear HPC3 HP3
   have h31:=HR3.out i hlt
   have hxm:=HUM2.out _ (qX (l:=al) (d:=(0,0)) (by omega:i<al.length))
   have htx:yH (al.take (i+1))=yH (al.take i)++Jn (al.getD i (0,0)):=by rw[Xi (by omega),U5]
   have htl:=HUL2.out i
   rw[List.length_take]at htl
   have htl2:(yH (al.take i)).length≤7000:=by omega
   clear htl
   generalize al.getD i (0,0)=x at h31 hxm htx
   obtain⟨xa,xk⟩:=x
   obtain⟨⟨hx0,hx1⟩,hxk⟩:=hxm
   unfold Jn at htx
   dsimp only at h31 hx0 hx1 hxk htx
   have hi0:=fun w' (hb' : Below wq.heap.size wq w')=>zdA xa (by omega) (by omega) w' (HG3.out.grow hb')
   have s2:(Lib.itoa xa).length≤21:=Lib.itoa_length_le _ (by omega) (by omega)
   clear hx0 hx1
   generalize yH (al.take i)=T at *
   generalize Lib.itoa xa=ita at *
   obtain⟨bT,hbT⟩:∃ bT:ByteArray,bT=⟨T.toArray⟩:=⟨_,rfl⟩
   obtain⟨bI,hbI⟩:∃ bI:ByteArray,bI=⟨ita.toArray⟩:=⟨_,rfl⟩
   have hT1:T=bT.data.toList:=by rw[hbT]
   have hI1:ita=bI.data.toList:=by rw[hbI]
   have hT2:bT.size≤7000:=by rw[hbT];show T.toArray.size≤_;rw[List.size_toArray];exact htl2
   have hI2:bI.size≤21:=by rw[hbI];show ita.toArray.size≤_;rw[List.size_toArray];exact s2
   simp only[← hbI]at hi0
   simp only[yM,← hbT]
   rw[hT1,hI1]at htx
   clear hT1 hI1 hbT hbI htl2 s2
   have H31:=Lib.hid h31
   have HTX:=Lib.hid htx
   have HI:=Lib.hid hi0
   clear h31 htx hi0
   rcases hxk with hk1|hk2|hk3
   ·subst hk1
    go_upto_region 10 with(first|(with_reducible refine ldB H31.out hL ?_)|((with_reducible refine lal hL ?_);clear hL;intro b9 w4 hL)|(with_reducible refine zd hL ?_;clear hL;intro w1 hL))
    simp only[Act.put,List.setIfInBounds_toArray,List.set_cons_succ,List.set_cons_zero]
    refine zf [34,35,36,37,38,39,40,41,42,43,44,45,7] ?_
    refine' Yl [(12,7)] 0 rfl (by kernel_rfl) ?_ ?_;rotate_left
    ·intro g w hb u hun;replace hL:=hL.grow hb;simp[GJ]at hun;clear u;simp only[za,fLa,fLb,sTa,sTb];simp only[hun]
     go_wp2
     exact cY
    simp only[apN,apC]
    refine dv0 ?_
    refine dv1 1 ?_
    apply zb
    ·intro g w hb u;replace hL:=hL.grow hb;have d2:=yv u 2;clear u;simp only[za,fLa,fLb,sTa,sTb];simp only[d2]
     go_wp2_with (go_at_call 34;refine(HI.out _ hL.below).mono ?_;rintro e w6 ⟨rfl,hb3⟩;dsimp only)
     exact⟨rfl,_,rfl,hb3,rfl⟩
    simp only[apN,apC]
    apply Jm
    ·intro g w hb u;replace hL:=hL.grow hb;clear u;simp only[za,fLa,fLb,sTa,sTb]
     go_wp2
     exact⟨rfl,_,rfl,(Below.refl _ _).alloc (Nat.le_refl _) _,_,hb.size,rfl,zI _ _⟩
    simp only[apN,apC]
    refine dv0 ?_
    refine dv1 5 ?_
    refine zh (Kl 1) Kl.stable ?_ ?_
    ·intro g w hb u;replace hL:=hL.grow hb;obtain⟨b4,e4,d4,f4⟩:=yC (zA u (j:=4) (by decide)) rfl rfl;have d6:=yv u 6;clear u;simp only[za,fLa,fLb,sTa,sTb];simp only[d4,d6]
     go_wp2_with (fail)
     exact⟨rfl,_,rfl,Below.refl _ _,b4,rfl,f4⟩
    simp only[apN,apC]
    apply zb
    ·intro g w hb u;replace hL:=hL.grow hb;have d7:(Kl 1) (g 41) w:=yr u 7;obtain⟨q7,d7,f7⟩:=d7;clear u;simp only[za,fLa,fLb,sTa,sTb];simp only[d7]
     (with_reducible refine lhp f7 ?_);go_wp2
     exact cY
    simp only[apN,apC]
    refine dv2 3 8 ?_
    refine dv1 9 ?_
    refine dv2 0 10 ?_
    refine dv1 11 ?_
    refine zO hL (by kernel_rfl) (by kernel_rfl) ?_
    intro g w5 hb hR;simp only[List.length_cons,List.length_nil,Nat.reduceAdd]at hR
    have e0:=yv hR 0
    have e1:=yv hR 1
    have e2:=yv hR 2
    have e3:=yv hR 3
    obtain⟨b4,p4,e4,c4⟩:=yC (zA hR (j:=4) (by decide)) rfl rfl
    have e5:=yv hR 5
    have e6:=yv hR 6
    have e7:(Kl 1) (g 41) w5:=yr hR 7
    obtain⟨q7,e7,-⟩:=e7
    have e8:=yv hR 8
    have e9:=yv hR 9
    have e10:=yv hR 10
    have e11:=yv hR 11
    have e12:=yv hR 12
    clear hR;simp only[za,fLa,fLb,sTa,sTb]
    simp only[e0,e1,e2,e3,e4,e5,e6,e7,e8,e9,e10,e11,e12]
    clear e0 e1 e2 e3 e4 e5 e6 e7 e8 e9 e10 e11 e12
    clear p4 c4
    replace hL:=hL.grow hb
    clear hb
    go_wp2
    go_roundw
    case rel=>exact⟨i+1,by omega,by go_num,by(rw[HTX.out];simp only[yD];first|rfl|simp[Jn,Kk]),hL.drop (List.nil_sublist _) (fun _ h=>h)⟩
    case measure=>simp[intOf];omega
   ·subst hk2
    go_upto_region 10 with(first|(with_reducible refine ldB H31.out hL ?_)|((with_reducible refine lal hL ?_);clear hL;intro b9 w4 hL)|(with_reducible refine zd hL ?_;clear hL;intro w1 hL))
    simp only[Act.put,List.setIfInBounds_toArray,List.set_cons_succ,List.set_cons_zero]
    refine zf [34,35,36,37,38,39,40,41,42,43,44,45,7] ?_
    refine' Yl [(12,7)] 0 rfl (by kernel_rfl) ?_ ?_;rotate_left
    ·intro g w hb u hun;replace hL:=hL.grow hb;simp[GJ]at hun;clear u;simp only[za,fLa,fLb,sTa,sTb];simp only[hun]
     go_wp2
     exact cY
    simp only[apN,apC]
    refine dv0 ?_
    refine dv1 1 ?_
    apply zb
    ·intro g w hb u;replace hL:=hL.grow hb;have d2:=yv u 2;clear u;simp only[za,fLa,fLb,sTa,sTb];simp only[d2]
     go_wp2_with (go_at_call 34;refine(HI.out _ hL.below).mono ?_;rintro e w6 ⟨rfl,hb3⟩;dsimp only)
     exact⟨rfl,_,rfl,hb3,rfl⟩
    simp only[apN,apC]
    apply Jm
    ·intro g w hb u;replace hL:=hL.grow hb;clear u;simp only[za,fLa,fLb,sTa,sTb]
     go_wp2
     exact⟨rfl,_,rfl,(Below.refl _ _).alloc (Nat.le_refl _) _,_,hb.size,rfl,zI _ _⟩
    simp only[apN,apC]
    refine dv0 ?_
    refine dv1 5 ?_
    refine zh (Kl 2) Kl.stable ?_ ?_
    ·intro g w hb u;replace hL:=hL.grow hb;obtain⟨b4,e4,d4,f4⟩:=yC (zA u (j:=4) (by decide)) rfl rfl;have d6:=yv u 6;clear u;simp only[za,fLa,fLb,sTa,sTb];simp only[d4,d6]
     go_wp2_with (fail)
     exact⟨rfl,_,rfl,Below.refl _ _,b4,rfl,f4⟩
    simp only[apN,apC]
    apply zb
    ·intro g w hb u;replace hL:=hL.grow hb;have d7:(Kl 2) (g 41) w:=yr u 7;obtain⟨q7,d7,f7⟩:=d7;clear u;simp only[za,fLa,fLb,sTa,sTb];simp only[d7]
     (with_reducible refine lhp f7 ?_);go_wp2
     exact cY
    simp only[apN,apC]
    refine dv2 3 8 ?_
    refine dv1 9 ?_
    refine dv2 0 10 ?_
    refine dv1 11 ?_
    refine zO hL (by kernel_rfl) (by kernel_rfl) ?_
    intro g w5 hb hR;simp only[List.length_cons,List.length_nil,Nat.reduceAdd]at hR
    have e0:=yv hR 0
    have e1:=yv hR 1
    have e2:=yv hR 2
    have e3:=yv hR 3
    obtain⟨b4,p4,e4,c4⟩:=yC (zA hR (j:=4) (by decide)) rfl rfl
    have e5:=yv hR 5
    have e6:=yv hR 6
    have e7:(Kl 2) (g 41) w5:=yr hR 7
    obtain⟨q7,e7,-⟩:=e7
    have e8:=yv hR 8
    have e9:=yv hR 9
    have e10:=yv hR 10
    have e11:=yv hR 11
    have e12:=yv hR 12
    clear hR;simp only[za,fLa,fLb,sTa,sTb]
    simp only[e0,e1,e2,e3,e4,e5,e6,e7,e8,e9,e10,e11,e12]
    clear e0 e1 e2 e3 e4 e5 e6 e7 e8 e9 e10 e11 e12
    clear p4 c4
    replace hL:=hL.grow hb
    clear hb
    go_wp2
    go_roundw
    case rel=>exact⟨i+1,by omega,by go_num,by(rw[HTX.out];simp only[yD];first|rfl|simp[Jn,Kk]),hL.drop (List.nil_sublist _) (fun _ h=>h)⟩
    case measure=>simp[intOf];omega
   ·subst hk3
    go_upto_region 10 with(first|(with_reducible refine ldB H31.out hL ?_)|((with_reducible refine lal hL ?_);clear hL;intro b9 w4 hL)|(with_reducible refine zd hL ?_;clear hL;intro w1 hL))
    simp only[Act.put,List.setIfInBounds_toArray,List.set_cons_succ,List.set_cons_zero]
    refine zf [34,35,36,37,38,39,40,41,42,43,44,45,7] ?_
    refine' Yl [(12,7)] 0 rfl (by kernel_rfl) ?_ ?_;rotate_left
    ·intro g w hb u hun;replace hL:=hL.grow hb;simp[GJ]at hun;clear u;simp only[za,fLa,fLb,sTa,sTb];simp only[hun]
     go_wp2
     exact cY
    simp only[apN,apC]
    refine dv0 ?_
    refine dv1 1 ?_
    apply zb
    ·intro g w hb u;replace hL:=hL.grow hb;have d2:=yv u 2;clear u;simp only[za,fLa,fLb,sTa,sTb];simp only[d2]
     go_wp2_with (go_at_call 34;refine(HI.out _ hL.below).mono ?_;rintro e w6 ⟨rfl,hb3⟩;dsimp only)
     exact⟨rfl,_,rfl,hb3,rfl⟩
    simp only[apN,apC]
    apply Jm
    ·intro g w hb u;replace hL:=hL.grow hb;clear u;simp only[za,fLa,fLb,sTa,sTb]
     go_wp2
     exact⟨rfl,_,rfl,(Below.refl _ _).alloc (Nat.le_refl _) _,_,hb.size,rfl,zI _ _⟩
    simp only[apN,apC]
    refine dv0 ?_
    refine dv1 5 ?_
    refine zh (Kl 3) Kl.stable ?_ ?_
    ·intro g w hb u;replace hL:=hL.grow hb;obtain⟨b4,e4,d4,f4⟩:=yC (zA u (j:=4) (by decide)) rfl rfl;have d6:=yv u 6;clear u;simp only[za,fLa,fLb,sTa,sTb];simp only[d4,d6]
     go_wp2_with (fail)
     exact⟨rfl,_,rfl,Below.refl _ _,b4,rfl,f4⟩
    simp only[apN,apC]
    apply zb
    ·intro g w hb u;replace hL:=hL.grow hb;have d7:(Kl 3) (g 41) w:=yr u 7;obtain⟨q7,d7,f7⟩:=d7;clear u;simp only[za,fLa,fLb,sTa,sTb];simp only[d7]
     (with_reducible refine lhp f7 ?_);go_wp2
     exact cY
    simp only[apN,apC]
    refine dv2 3 8 ?_
    refine dv1 9 ?_
    refine dv2 0 10 ?_
    refine dv1 11 ?_
    refine zO hL (by kernel_rfl) (by kernel_rfl) ?_
    intro g w5 hb hR;simp only[List.length_cons,List.length_nil,Nat.reduceAdd]at hR
    have e0:=yv hR 0
    have e1:=yv hR 1
    have e2:=yv hR 2
    have e3:=yv hR 3
    obtain⟨b4,p4,e4,c4⟩:=yC (zA hR (j:=4) (by decide)) rfl rfl
    have e5:=yv hR 5
    have e6:=yv hR 6
    have e7:(Kl 3) (g 41) w5:=yr hR 7
    obtain⟨q7,e7,-⟩:=e7
    have e8:=yv hR 8
    have e9:=yv hR 9
    have e10:=yv hR 10
    have e11:=yv hR 11
    have e12:=yv hR 12
    clear hR;simp only[za,fLa,fLb,sTa,sTb]
    simp only[e0,e1,e2,e3,e4,e5,e6,e7,e8,e9,e10,e11,e12]
    clear e0 e1 e2 e3 e4 e5 e6 e7 e8 e9 e10 e11 e12
    clear p4 c4
    replace hL:=hL.grow hb
    clear hb
    go_wp2
    go_roundw
    case rel=>exact⟨i+1,by omega,by go_num,by(rw[HTX.out];simp only[yD];first|rfl|simp[Jn,Kk]),hL.drop (List.nil_sublist _) (fun _ h=>h)⟩
    case measure=>simp[intOf];omega
  ·obtain rfl:i=sn:=by omega
   go_wp2
   refine rt2 ?_
   exact⟨yH al,by first|(rw[List.take_of_length_le (by omega)];done)|(rw[List.take_of_length_le (by omega)];rfl),HT.out,HB3.out.trans (hL.below.mono HB3.out.size)⟩
end Go.Proofs.YtplcndmdkabmeaaGreatDoor
