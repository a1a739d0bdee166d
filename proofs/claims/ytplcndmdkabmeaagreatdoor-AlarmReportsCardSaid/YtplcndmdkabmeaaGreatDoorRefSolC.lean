/- The walk over the reference's SolveOf. Conditions: a right program. -/
import Derived.Test.YtplcndmdkabmeaaGreatDoorRefSolB
import Derived.Test.YtplcndmdkabmeaaGreatDoorPicd
set_option linter.unusedSimpArgs false
set_option linter.unusedVariables false
set_option maxRecDepth 100000
set_option maxHeartbeats 8000000
namespace Go.Proofs.YtplcndmdkabmeaaGreatDoor
open Go.RowKit
def Uy (wq:World) (C:zw) (o:Y0):Value→World→Prop:=fun v w=>∃ s:Sl,v=.tuple #[.slice s.p s.n s.cap,.bool o.wr,.bool o.fl]∧Q2 wq w C s o.es
theorem Uy.stable {wq:World}{C:zw}{o:Y0}:jC (Uy wq C o):=by
 rintro v w w' hb ⟨r,h1,h2⟩;exact⟨r,h1,h2.grow hb⟩
def Gr (wq:World) (C:zw) (es:List (Int × Pd)):Value→World→Prop:=fun v w=>∃ s:Sl,v=.slice s.p s.n s.cap∧Q2 wq w C s es
theorem Gr.stable {wq:World}{C:zw}{es:List (Int × Pd)}:jC (Gr wq C es):=by
 rintro v w w' hb ⟨r,h1,h2⟩;exact⟨r,h1,h2.grow hb⟩
theorem YN.since {wq w w' : World}{x y:Pv}{d e dj:Pd}{v:Value}(hb:Below wq.heap.size wq w) (h:YN w x y d e dj v w'):YN wq x y d e dj v w':=by
 obtain⟨r,h1,h2|h2|h2⟩:=h
 ·exact⟨r,h1,.inl h2⟩
 ·exact⟨r,h1,.inr (.inl h2)⟩
 ·exact⟨r,h1,.inr (.inr (h2.since hb))⟩
theorem zbX (p:Pg) (is:Nat→Ins) (nv nf:Nat) (hv:p.vars=nv) (hf:p.fields=nf) (hp:zl p is=0) (w:World) (hc:qc w p is):
  Calls Tryz.prog 23 #[p.v] w fun q w'=>∃ (k:Nat) (s:Sl),q=.returned (.tuple #[.slice s.p s.n s.cap,.int .i64 ((k+1:Nat):Int)])∧yG is p.n (zB nv nf p.n) k∧zaH w w' s (qZ is p.n (zB nv nf p.n) (k+1)):=by
 have hs:=(zx hp).1
 have h1:=hs.v2
 have h2:=hs.f2
 have h60:=hs.n1
 have HF:=Lib.hid (fun w'=>zbE p nv nf hv hf (by omega) (by omega) (by omega) w')
 have hb0:qI p is (zB nv nf p.n):=Yv hv hf
 have HBM:=Lib.hid (Jc hp (Ye (is:=is) hv hf))
 have HRS:=Lib.hid (fun x d gx i w' (hw:Below w.heap.size w w') (hx:Y2 w' x d gx) (hr:qd p is d=0) (hi:i<p.n)=>(show Calls Tryz.prog 40 #[p.v,.int .i64 i,x.v] w' fun e w2=>∃ s:Sl,e=.returned (.tuple #[.slice s.p s.n s.cap,.bool (Qg is i d).wr,.bool (Qg is i d).fl])∧Q2 w' w2 (fun w=>zX w gx d.vars) s (Qg is i d).es from zcc p is x d gx i w' hp (hc.grow hw) hx.1 hx.2 hr hi))
 have HJN:=Lib.hid (fun wd x y d e w' (hx:zN w' x d) (hy:zN w' y e) (h:qd p is d=0) (h' : qd p is e=0)=>zbl wd _ (zbm wd) p is x y d e w' hx hy hp h h')
 have HTOP:=Lib.hid (fun k (h:∀ j,j<k→ZO is p.n (zB nv nf p.n) j=true)=>GA hp hb0 h)
 have HOK:=Lib.hid (fun k=>JI hp hb0 k)
 have HOKI:=Lib.hid (fun k i (hi:i≤p.n)=>(Zl hp (nb:=decide (3<k+1)) (s:=(qZ is p.n (zB nv nf p.n) k,false)) (JI hp hb0 k) i hi).1)
 have HOKF:=Lib.hid (fun nb i (hi:i<p.n) (es:List (Int × Pd)) (s:List Pd × Bool) (hs:qI p is s.1) (he:∀ x∈es,(0≤x.1∧x.1≤p.n)∧qd p is x.2=0)=>(KM hp (nb:=nb) (i:=i) es s hs he).1)
 have HFIT:=Lib.hid (fun (d:Pd) (hr:qd p is d=0) i (hi:i<p.n)=>V6 hp hr hi)
 have HREF:=Lib.hid (fun nb i x s h h1 h2=>zeg (is:=is) hp (nb:=nb) (i:=i) (x:=x) (s:=s) h h1 h2)
 have HJL:=Lib.hid (fun (f:zq→zq→zq) (hf:ZM f) d e (h:qd p is d=0) (h' : qd p is e=0)=>Jc hp (d:=QL f d e) (by rw[← JQ hp h h'];exact VU hf.toGt hp h h'))
 have HRT:=Lib.hid (fun (l:List Pd) (h:qI p is l) k (hk:k≤p.n)=>h.r k hk)
 have HLEN:=Lib.hid (fun (l:List Pd) (h:qI p is l)=>h.len)
 have HNX:=Lib.hid (fun (nx:Nat→Int × Pd→List Pd × Bool→List Pd × Bool) k s=>JX is nx Prod.fst k s)
 have HG0:=Lib.hid (fun r g w h=>zbk nv nf p.n r g w h)
 have HB0:=Lib.hid (show zB nv nf p.n=yj nv nf p.n::List.replicate p.n zQ from rfl)
 have HS0:=Lib.hid (show qZ is p.n (zB nv nf p.n) 0=zB nv nf p.n from rfl)
 have HSN:=Lib.hid (fun k=>(show (ZO is p.n (zB nv nf p.n) k=(qm is (jf (decide (3<k+1))) Prod.fst p.n (qZ is p.n (zB nv nf p.n) k,false)).2∧qZ is p.n (zB nv nf p.n) (k+1)=(qm is (jf (decide (3<k+1))) Prod.fst p.n (qZ is p.n (zB nv nf p.n) k,false)).1) from ⟨rfl,rfl⟩))
 have HE0:=Lib.hid (fun k=>(show qm is (jf (decide (3<k+1))) Prod.fst 0 (qZ is p.n (zB nv nf p.n) k,false)=(qZ is p.n (zB nv nf p.n) k,false) from rfl))
 clear hs hc
 generalize hl0:zB nv nf p.n=l0 at *
 generalize hf0:yj nv nf p.n=f0 at *
 clear hl0 hf0 hb0 h1 h2 hp
 obtain⟨pv,pf,pp,pn,pc⟩:=p
 dsimp only at *
 subst hv hf
 have hL:=Loc.start w
 go_enter Tryz.func23,Tryz.ntmps23
 go_step
 go_step
 go_step
 ((with_reducible refine lbx hL ?_);clear hL;intro b1 w1 hL)
 go_wp2_with (first|(go_at_call 56;refine(HF.out _).mono ?_;rintro q w3 ⟨⟨rn,⟨rp,rvn,rc⟩,⟨rfp,rfn,rfc⟩⟩,rfl,hG⟩;replace hL:=hL.gotP hG HBM.out;clear hG;dsimp only)|((with_reducible refine lbs hL ?_);clear hL;intro b4 w1 hL)|(with_reducible refine lld hL ?_))
 obtain⟨g0,hL'⟩:=hL.gx
 clear hL
 have hL:=hL'.perm (List.Perm.swap _ _ _)
 clear hL'
 obtain⟨rr,hrr⟩:∃ rr:Pv,rr=⟨rn,⟨rp,rvn,rc⟩,⟨rfp,rfn,rfc⟩⟩:=⟨_,rfl⟩
 go_loopw [4,5] (fun c4 c5 wr=>∃ (k:Nat) (p4:Option Addr) (cap4:Nat) (R:List zj),k≤pn∧c4=.slice p4 (k+1) cap4∧c5=.int .i64 k∧zM 54 3 p4 (k+1) cap4 ((rr::List.replicate k yk).flatMap Pv.cells) R∧Loc w wr ((b1,27,[.int .i64 nv,.int .i64 nf,.slice pp pn pc])::R) [fun w=>Y2 w rr f0 g0]) (fun _ c _=>pn - (intOf c).toNat)
 case atStart=>
  refine⟨0,some ⟨b4,0,none⟩,1,_,Nat.zero_le _,rfl,rfl,?_,by subst hrr;exact hL⟩
  subst hrr
  exact zM.full (E:=54) (b:=b4) (n:=1) (xs:=Pv.cells ⟨rn,⟨rp,rvn,rc⟩,⟨rfp,rfn,rfc⟩⟩) rfl (by decide)
 case round=>
  clear hL
  obtain⟨k,p4,cap4,R,hk,rfl,rfl,hR,hL⟩:=hrel
  have HR:=Lib.hid hR
  by_cases hlt:k<pn
  ·clear hR
   go_wp2_with (first|(refine zz (z:=QD) (K:=(bl,_,_)::(b1,_,_)::[]) (R:=R) (news:=Pv.cells yk) HR.out hL rfl rfl rfl Ut zfN (by decide) rfl (fun _=>⟨⟨bl,0,none⟩,rfl,fun j u hj=>by rw[zH,Nat.zero_add];exact zF (hL.heap cIn) j hj⟩) rfl (by simp[Value.oneCell']) (by have:maxLen=9223372036854775807:=rfl;omega) (by omega) ?_;clear hL;intro p5 cap5 R5 w5 hS5 hL;simp only[List.cons_append,List.nil_append]at hL)|(with_reducible first|refine lld hL ?_|(refine lbs hL ?_;clear hL;intro bl w1 hL)))
   go_roundw
   case rel=>
    refine⟨k+1,p5,cap5,R5,by omega,rfl,by go_num,?_,hL.drop (.cons _ (List.Sublist.refl _)) (fun _ h=>h)⟩
    rw[List.replicate_succ',List.flatMap_cons,List.flatMap_append,← List.append_assoc,← List.flatMap_cons]
    exact hS5
   case measure=>simp[intOf];omega
  ·obtain rfl:k=pn:=by omega
   clear hlt HR hk
   obtain⟨bk,cr0,rfl,rfl,-,-⟩:=hR.block (by omega)
   have HR0:=Lib.hid hR
   replace hL:=hL.turn (U:=yy (rr::List.replicate k yk) (g0::List.replicate k []) l0) (fun w h=>HG0.out rr g0 w h)
   clear hR
   go_wp2_with (first|(with_reducible refine lld hL ?_))
   go_loopw [6,7] (fun c6 c7 wr=>∃ (m:Nat) (ch:Bool) (xs:List Pv) (gs:List (List Gu)) (cr:List Value),c6=.int .i64 m∧c7=.bool ch∧(ch=true→∀ j,j<m→ZO is k l0 j=true)∧(ch=false→∃ m',m=m' + 1∧yG is k l0 m')∧xs.length=k+1∧gs.length=k+1∧zM 54 3 (some ⟨bk,0,none⟩) (k+1) cap4 (xs.flatMap Pv.cells) [(bk,54,cr)]∧Loc w wr [(b1,27,[.int .i64 nv,.int .i64 nf,.slice pp k pc]),(bk,54,cr)] [yy xs gs (qZ is k l0 m)]) (fun c _ _=>50000000000003 - (intOf c).toNat)
   case atStart=>exact⟨0,true,rr::List.replicate k yk,g0::List.replicate k [],cr0,rfl,rfl,fun _ j hj=>absurd hj (Nat.not_lt_zero j),fun h=>(by cases h),(by simp),(by simp),HR0.out,(by rw[HS0.out];exact hL)⟩
   case round=>
    clear hL HR0
    obtain⟨m,ch,xs,gs,cr,rfl,rfl,hch1,hch0,hxl,hgl,hR,hL⟩:=hrel
    cases ch with
    | false=>
     obtain⟨m',rfl,hE⟩:=hch0 rfl
     clear hch1 hch0
     have HE:=Lib.hid hE
     have HXL:=Lib.hid hxl
     clear hE hxl hgl
     go_wp2
     refine rt2 ?_
     refine⟨m',⟨some ⟨bk,0,none⟩,k+1,cap4⟩,rfl,HE.out,xs,[(bk,54,cr)],?_,hR,(hL.turn (U:=y8 xs (qZ is k l0 (m' + 1))) (fun w h j hj=>(h j hj).1)).drop (.cons _ (List.Sublist.refl _)) (fun _ h=>h)⟩
     rw[HLEN.out _ (HOK.out _),HXL.out]
    | true=>
     have hj:=hch1 rfl
     clear hch1 hch0
     have hm:=HTOP.out m hj
     have HJ:=Lib.hid hj
     have HXL:=Lib.hid hxl
     have HGL:=Lib.hid hgl
     have HR:=Lib.hid hR
     clear hj hxl hgl hR
     go_wp2
     go_loopw [7,8] (fun c7 c8 wr=>∃ (i:Nat) (l2:List Pd) (ch:Bool) (xs:List Pv) (gs:List (List Gu)) (cr:List Value),c7=.bool ch∧c8=.int .i64 i∧i≤k∧qm is (jf (decide (3<m+1))) Prod.fst i (qZ is k l0 m,false)=(l2,ch)∧xs.length=k+1∧gs.length=k+1∧zM 54 3 (some ⟨bk,0,none⟩) (k+1) cap4 (xs.flatMap Pv.cells) [(bk,54,cr)]∧Loc w wr [(b1,27,[.int .i64 nv,.int .i64 nf,.slice pp k pc]),(bk,54,cr)] [yy xs gs l2]) (fun _ c _=>k+1 - (intOf c).toNat)
     case atStart=>exact⟨0,_,false,xs,gs,cr,rfl,rfl,Nat.zero_le _,rfl,HXL.out,HGL.out,HR.out,hL⟩
     case round=>
      clear hL HR HXL HGL
      obtain⟨i,l2,ch,xs,gs,cr,rfl,rfl,hi,heq,hxl,hgl,hR,hL⟩:=hrel
      have HEQ:=Lib.hid heq
      have HXL:=Lib.hid hxl
      have HGL:=Lib.hid hgl
      by_cases hlt:i<k
      ·have hok:=HOKI.out m i (by omega)
       rw[heq]at hok
       have hrt:=HRT.out l2 hok i (by omega)
       have hpg:=hL.get (S:=yy xs gs l2) List.mem_cons_self i (by rw[HLEN.out l2 hok];omega)
       have hel:=hR.elem ZE qU (k:=i) (by omega)
       have HG1:=Lib.hid (show ze Tryz.prog 54 cr (i*3) (xs.getD i qU).v from ze.agg ZK hel rfl)
       have HGD:=Lib.hid (fun w (h:yy xs gs l2 w)=>(h i (by rw[HLEN.out l2 hok];omega)).2.d)
       have HST:=Lib.hid (fun w' (hb:Below wr.heap.size wr w')=>HRS.out (xs.getD i qU) (l2.getD i zQ) (gs.getD i []) i w' (hL.below.trans (hb.mono hL.below.size)) (hpg.grow hb) hrt hlt)
       have hft:=HFIT.out (l2.getD i zQ) hrt i hlt
       have hnx:=HNX.out (jf (decide (3<m+1))) i (qZ is k l0 m,false)
       rw[heq]at hnx
       unfold UO Uz at hnx
       dsimp only at hnx hft HST
       have HOK2:=Lib.hid hok
       have HR:=Lib.hid hR
       have hns:((i:Int)<((k+1:Nat):Int)):=by omega
       clear hrt hpg hel hok heq hxl hgl hR
       generalize l2.getD i zQ=d at HGD HST hft hnx
       generalize Qg is i d=o at HST hft hnx
       generalize gs.getD i []=gx at HGD HST
       generalize xs.getD i qU=x at HG1 HST
       have HFT:=Lib.hid hft
       have HNXT:=Lib.hid hnx
       clear hft hnx
       obtain⟨xn,⟨xp,xvn,xc⟩,⟨xfp,xfn,xfc⟩⟩:=x
       dsimp only[Pv.v]at HG1 HST
       obtain⟨wq,hwq⟩:∃ x,x=wr:=⟨_,rfl⟩
       subst hwq
       go_upto_region 14 with(first|(with_reducible refine lld hL ?_))
       refine zf [40,41,42,43,44,45,46,39,47,48,49,9,10,11] ?_
       refine dv0 ?_
       refine dv0 ?_
       refine dv0 ?_
       refine dv0 ?_
       refine dv2 2 3 ?_
       apply zb
       ·intro g w hb V;replace hL:=hL.grow hb;have d4:=yv V 4;clear V;simp only[za,fLa,fLb,sTa,sTb];simp only[d4]
        refine zR hL rfl rfl cIn HG1.out ?_
        exact cY
       simp only[apN,apC]
       refine zh (Uy wq (fun w=>zX w gx d.vars) o) Uy.stable ?_ ?_
       ·intro g w hb V;replace hL:=hL.grow hb;have d0:=yv V 0;have d1:=yv V 1;have d5:=yv V 5;clear V;simp only[za,fLa,fLb,sTa,sTb];simp only[d0,d1,d5]
        go_wp2_with (go_at_call 40;refine(HST.out _ hb).mono ?_;rintro e w3 ⟨s1,rfl,hG⟩;dsimp only)
        exact⟨rfl,_,rfl,hG.below,s1,rfl,Loc.since hb hG⟩
       simp only[apN,apC]
       refine zh (Uy wq (fun w=>zX w gx d.vars) o) Uy.stable ?_ ?_
       ·intro g w hb V;replace hL:=hL.grow hb;have d6:(Uy wq (fun w=>zX w gx d.vars) o) (g 46) w:=yr V 6;obtain⟨s1,d6,hG⟩:=d6;clear V;simp only[za,fLa,fLb,sTa,sTb];simp only[d6]
        go_wp2_with (fail)
        exact⟨rfl,_,rfl,Below.refl _ _,s1,rfl,hG⟩
       simp only[apN,apC]
       refine zh (Gr wq (fun w=>zX w gx d.vars) o.es) Gr.stable ?_ ?_
       ·intro g w hb V;replace hL:=hL.grow hb;have d7:(Uy wq (fun w=>zX w gx d.vars) o) (g 39) w:=yr V 7;obtain⟨s1,d7,hG⟩:=d7;clear V;simp only[za,fLa,fLb,sTa,sTb];simp only[d7]
        go_wp2_with (fail)
        exact⟨rfl,_,rfl,Below.refl _ _,s1,rfl,hG⟩
       simp only[apN,apC]
       apply zb
       ·intro g w hb V;replace hL:=hL.grow hb;have d7:(Uy wq (fun w=>zX w gx d.vars) o) (g 39) w:=yr V 7;obtain⟨s1,d7,hG⟩:=d7;clear V;simp only[za,fLa,fLb,sTa,sTb];simp only[d7]
        go_wp2
        exact cY
       simp only[apN,apC]
       apply zb
       ·intro g w hb V;replace hL:=hL.grow hb;have d7:(Uy wq (fun w=>zX w gx d.vars) o) (g 39) w:=yr V 7;obtain⟨s1,d7,hG⟩:=d7;clear V;simp only[za,fLa,fLb,sTa,sTb];simp only[d7]
        go_wp2
        exact cY
       simp only[apN,apC]
       refine zh (Gr wq (fun w=>zX w gx d.vars) o.es) Gr.stable ?_ ?_
       ·intro g w hb V;replace hL:=hL.grow hb;have d8:(Gr wq (fun w=>zX w gx d.vars) o.es) (g 47) w:=yr V 8;obtain⟨s1,d8,hG⟩:=d8;clear V;simp only[za,fLa,fLb,sTa,sTb];simp only[d8]
        go_wp2_with (fail)
        exact⟨rfl,_,rfl,Below.refl _ _,s1,rfl,hG⟩
       simp only[apN,apC]
       refine dv1 9 ?_
       refine dv1 10 ?_
       refine zO hL (by kernel_rfl) (by kernel_rfl) ?_
       intro g w2 hb hR;simp only[List.length_cons,List.length_nil,Nat.reduceAdd]at hR
       have e0:=yv hR 0
       have e1:=yv hR 1
       have e2:=yv hR 2
       have e3:=yv hR 3
       have e4:=yv hR 4
       have e5:=yv hR 5
       have e6:(Uy wq (fun w=>zX w gx d.vars) o) (g 46) w2:=yr hR 6
       obtain⟨sz6,e6,-⟩:=e6
       have e7:(Uy wq (fun w=>zX w gx d.vars) o) (g 39) w2:=yr hR 7
       obtain⟨sz7,e7,-⟩:=e7
       have e8:(Gr wq (fun w=>zX w gx d.vars) o.es) (g 47) w2:=yr hR 8
       obtain⟨sz8,e8,-⟩:=e8
       have e9:=yv hR 9
       have e10:=yv hR 10
       have e11:(Gr wq (fun w=>zX w gx d.vars) o.es) (g 9) w2:=yr hR 11
       obtain⟨⟨sp,sn,sc⟩,e11,hGE⟩:=e11
       have e12:=yv hR 12
       have e13:=yv hR 13
       clear hR;simp only[za,fLa,fLb,sTa,sTb]
       simp only[e0,e1,e2,e3,e4,e5,e6,e7,e8,e9,e10,e11,e12,e13]
       clear e0 e1 e2 e3 e4 e5 e6 e7 e8 e9 e10 e11 e12 e13
       replace hL:=hL.gave hGE;simp only[List.append_nil,List.cons_append,List.nil_append]at hL;clear hGE
       clear hb
       clear HST HG1
       replace hL:=hL.both (U:=fun w=>y9 w ⟨sp,sn,sc⟩ o.es∧yy xs gs l2 w) (fun w h1 h2=>⟨h1 (HGD.out w h2),h2⟩)
       clear HGD
       obtain⟨evs,hL'⟩:=(hL.derive List.mem_cons_self (U:=fun w=>y9 w ⟨sp,sn,sc⟩ o.es) (fun w h=>h.1)).edsW
       replace hL:=(hL'.derive (U:=yy xs gs l2) (List.mem_cons_of_mem _ List.mem_cons_self) (fun w h=>h.2)).drop (D':=[zbj evs ⟨sp,sn,sc⟩ o.es,yy xs gs l2]) (List.Sublist.refl _) (fun S hS=>by
        simp only[List.mem_cons,List.not_mem_nil,or_false]at hS ⊢
        rcases hS with rfl|rfl<;>simp)
       clear hL'
       go_wp2
       go_loopw [7,12] (fun c7 c12 wr=>∃ (j:Nat) (l3:List Pd) (ch3:Bool) (xs:List Pv) (gs:List (List Gu)) (cr:List Value),c7=.bool ch3∧c12=.int .i64 j∧j≤o.es.length∧(o.es.take j).foldl (fun s d=>jf (decide (3<m+1)) i d s) (l2,ch)=(l3,ch3)∧xs.length=k+1∧gs.length=k+1∧zM 54 3 (some ⟨bk,0,none⟩) (k+1) cap4 (xs.flatMap Pv.cells) [(bk,54,cr)]∧Loc w wr [(b1,27,[.int .i64 nv,.int .i64 nf,.slice pp k pc]),(bk,54,cr)] [zbj evs ⟨sp,sn,sc⟩ o.es,yy xs gs l3]) (fun _ c _=>o.es.length+1 - (intOf c).toNat)
       case atStart=>exact⟨0,l2,ch,xs,gs,cr,rfl,rfl,Nat.zero_le _,rfl,HXL.out,HGL.out,HR.out,hL⟩
       case round=>
        clear hL HR HXL HGL
        obtain⟨j,l3,ch3,xs,gs,cr,rfl,rfl,hj,hfo,hxl,hgl,hR,hL⟩:=hrel
        have HFO:=Lib.hid hfo
        have HXL:=Lib.hid hxl
        have HGL:=Lib.hid hgl
        have hW:=hL.get (S:=zbj evs ⟨sp,sn,sc⟩ o.es) List.mem_cons_self
        have hsn:=hW.n
        have hsm:=hW.m
        dsimp only at hsn hsm
        by_cases hlj:j<o.es.length
        ·have hok:=HOKF.out (decide (3<m+1)) i hlt (o.es.take j) (l2,ch) HOK2.out (fun x hx=>HFT.out x (List.mem_of_mem_take hx))
         rw[hfo]at hok
         dsimp only at hok
         have hmem:o.es.getD j (0,QU)∈o.es:=qX hlj
         obtain⟨⟨ht0,ht1⟩,hre⟩:=HFT.out _ hmem
         obtain⟨hgo,hpe⟩:=hW.d.at' j hlj
         obtain⟨be,oe,hpp,hcc⟩:=hW.l.ex
         dsimp only at hpp hcc
         obtain rfl:=hpp (by omega)
         obtain⟨hc1,hc2⟩:=hcc j (by omega)
         have hr6:=zg.cell (P:=Tryz.prog) QQ hc1 (hc2 0 _ rfl)
         have hr7:zg Tryz.prog 54 wr be (oe+j*4+1) (evs.getD j JN).x.v:=zg.agg ZK hc1 (fun z v hz=>by
          have h6:=hc2 (z+1) v (by simpa using hz)
          rw[show oe+j*4+1+z=oe+j*4+(z+1) by omega]
          exact h6) rfl
         rw[Nat.add_zero,hgo]at hr6
         have hnf:=UP (fun s d=>jf (decide (3<m+1)) i d s) o.es (0,QU) j hlj (l2,ch)
         rw[hfo]at hnf
         have href:=HREF.out (decide (3<m+1)) i (o.es.getD j (0,QU)) (l3,ch3) hok hre ⟨ht0,ht1⟩
         rw[href]at hnf
         have HTE:=Lib.hid (fun w (h:zbj evs ⟨some ⟨be,oe,none⟩,sn,sc⟩ o.es w)=>(h.d.at' j hlj).2)
         clear href hmem hpp hcc hc1 hc2 hgo hW hfo
         generalize o.es.getD j (0,QU)=ek at ht0 ht1 hre hpe hr6 hnf HTE
         generalize evs.getD j JN=ev at hpe hr7 HTE
         obtain⟨ego,pe⟩:=ek
         obtain⟨evg,⟨en,⟨ep,evn,ec⟩,⟨efp,efn,efc⟩⟩⟩:=ev
         dsimp only[Pv.v]at ht0 ht1 hre hpe hr6 hr7 hnf HTE
         obtain⟨t,rfl⟩:∃ t:Nat,ego=t:=⟨ego.toNat,by omega⟩
         have htk:t≤k:=by omega
         rw[show ((t:Int)).toNat=t from rfl]at hnf
         have hrt2:=HRT.out l3 hok t htk
         have hl3:=HLEN.out l3 hok
         have hel:=hR.elem ZE qU (k:=t) (by omega)
         have HG2:=Lib.hid (show ze Tryz.prog 54 cr (t*3) (xs.getD t qU).v from ze.agg ZK hel rfl)
         obtain⟨-,-,-,hcl,-⟩:=hR.same
         have hfit:=hR.fits
         have HSZ:=Lib.hid (show t*3+3≤cr.length by rw[hcl];omega)
         have HR3:=Lib.hid hR
         have HPUT:=Lib.hid (fun v=>hR.put ZE qU (k:=t) (by omega) v)
         have HTX:=Lib.hid (fun w (h:yy xs gs l3 w)=>(h t (by omega)).1)
         have HSET:=Lib.hid (fun w r d gx (h1:Y2 w r d gx) (h2:yy xs gs l3 w)=>h2.set (by omega) (by omega) (t:=t) h1)
         have hst:ZM (if (decide (3<m+1)&&decide ((t:Int)≤i))=true then jA else both):=by
          split
          ·exact ZN
          ·exact Zk
         have hdj:=HJL.out _ hst _ pe hrt2 hre
         have hpx:=HTX.out _ (hL.get (S:=yy xs gs l3) (List.mem_cons_of_mem _ List.mem_cons_self))
         have hjn:=fun wd (hwd:wd=(decide (3<m+1)&&decide ((t:Int)≤i))) w' (hb:Below wr.heap.size wr w')=>HJN.out wd (xs.getD t qU) ⟨en,⟨ep,evn,ec⟩,⟨efp,efn,efc⟩⟩ (l3.getD t zQ) pe w' (hpx.grow hb) (hpe.grow hb) hrt2 hre
         have HJ:=Lib.hid (fun wd (hwd:wd=(decide (3<m+1)&&decide ((t:Int)≤i))) w' (hb:Below wr.heap.size wr w')=>(show Calls Tryz.prog 57 #[(xs.getD t qU).v,Pv.v ⟨en,⟨ep,evn,ec⟩,⟨efp,efn,efc⟩⟩,.bool wd] w' fun q w2=>∃ v,q=.returned v∧YN w' (xs.getD t qU) ⟨en,⟨ep,evn,ec⟩,⟨efp,efn,efc⟩⟩ (l3.getD t zQ) pe (QL (if (decide (3<m+1)&&decide ((t:Int)≤i))=true then jA else both) (l3.getD t zQ) pe) v w2∧Below w'.heap.size w' w2 by have h:=hjn wd hwd w' hb;rw[hwd]at h ⊢;exact h))
         have hnt:((t:Int)<((k+1:Nat):Int)):=by omega
         have hnj:((j:Int)<(sn:Int)):=by omega
         have HR6:=Lib.hid hr6
         have HR7:=Lib.hid hr7
         have HOK3:=Lib.hid hok
         clear hjn hst hrt2 hre hel hpx hpe hr6 hr7 hok hxl hgl hR ht0 ht1 hcl hfit
         generalize QL (if (decide (3<m+1)&&decide ((t:Int)≤i))=true then jA else both) (l3.getD t zQ) pe=dj at hnf hdj HJ
         have HSM:=Lib.hid (fun (r:Pv) w' (h1:zN w' r dj) (h2:zN w' (xs.getD t qU) (l3.getD t zQ))=>X9 r (xs.getD t qU) dj (l3.getD t zQ) w' h1 h2)
         generalize Zu dj (l3.getD t zQ)=sm at hnf HSM
         generalize l3.getD t zQ=dl3 at HTX HJ HSM
         generalize xs.getD t qU=x3 at HG2 HTX HJ HSM
         obtain⟨x3n,⟨x3p,x3vn,x3c⟩,⟨x3fp,x3fn,x3fc⟩⟩:=x3
         dsimp only[Pv.v]at HG2 HJ HSM
         have HNF:=Lib.hid hnf
         have HDJ:=Lib.hid hdj
         have HSN2:=Lib.hid hsn
         have HL3:=Lib.hid hl3
         have hjb:j<9223372036854775807:=by have:maxLen=9223372036854775807:=rfl;omega
         clear hnf hdj hsn hl3 hsm
         obtain⟨wq,hwq⟩:∃ x,x=wr:=⟨_,rfl⟩
         subst hwq
         have hL0:=Loc.start wq
         go_upto_region 19 with(first|(with_reducible refine ldB HR6.out hL0 ?_))
         clear hL0
         refine zf [61,62,63,64,65,66,67,68,69,70,71,72,73,74,75,76,77,14] ?_
         refine dv0 ?_
         refine dv0 ?_
         refine dv2 0 1 ?_
         apply zb
         ·intro g w hb V;replace hL:=hL.grow hb;have d2:=yv V 2;clear V;simp only[za,fLa,fLb,sTa,sTb];simp only[d2]
          refine zR hL rfl rfl cIn HG2.out ?_
          exact cY
         simp only[apN,apC]
         refine dv0 ?_
         refine dv0 ?_
         refine dv2 4 5 ?_
         refine dv1 6 ?_
         apply zb
         ·intro g w hb V;replace hL:=hL.grow hb;have d7:=yv V 7;clear V;simp only[za,fLa,fLb,sTa,sTb];simp only[d7]
          refine zo HR7.out ((Loc.start _).grow hb) rfl rfl ?_
          exact cY
         simp only[apN,apC]
         refine dv0 ?_
         refine dv1 9 ?_
         refine dv1 10 ?_
         refine dg0 11 ?_
         refine dg0 11 ?_
         refine dg2 11 12 13 ?_
         refine dpa 11 14 ?_
         refine zh (YN wq ⟨x3n,⟨x3p,x3vn,x3c⟩,⟨x3fp,x3fn,x3fc⟩⟩ ⟨en,⟨ep,evn,ec⟩,⟨efp,efn,efc⟩⟩ dl3 pe dj) YN.stable ?_ ?_
         ·intro g w hb V;replace hL:=hL.grow hb;have d3:=yv V 3;have d8:=yv V 8;have d15:=yv V 15;clear V;simp only[za,fLa,fLb,sTa,sTb];simp only[d3,d8,d15]
          go_wp2_with (go_at_call 57;refine(HJ.out _ (by first|rfl|(rw[Bool.eq_iff_iff];simp only[Bool.and_eq_true,decide_eq_true_eq];omega)) _ hb).mono ?_;rintro e w3 ⟨v,rfl,hJR,hb3⟩;dsimp only)
          exact⟨rfl,_,rfl,hb3,hJR.since hb⟩
         simp only[apN,apC]
         apply Qi
         ·intro g w hb V;replace hL:=hL.grow hb;clear V;simp only[za,fLa,fLb,sTa,sTb]
          go_wp2
          exact⟨rfl,_,rfl,(Below.refl _ _).alloc (Nat.le_refl _) _,_,hb.size,rfl,zI _ _⟩
         simp only[apN,apC]
         refine zO hL (by kernel_rfl) (by kernel_rfl) ?_
         intro g w2 hb hR;simp only[List.length_cons,List.length_nil,Nat.reduceAdd]at hR
         have e0:=yv hR 0
         have e1:=yv hR 1
         have e2:=yv hR 2
         have e3:=yv hR 3
         have e4:=yv hR 4
         have e5:=yv hR 5
         have e6:=yv hR 6
         have e7:=yv hR 7
         have e8:=yv hR 8
         have e9:=yv hR 9
         have e10:=yv hR 10
         have e11:=yv hR 11
         have e12:=yv hR 12
         have e13:=yv hR 13
         have e14:=yv hR 14
         have e15:=yv hR 15
         have e16:(YN wq ⟨x3n,⟨x3p,x3vn,x3c⟩,⟨x3fp,x3fn,x3fc⟩⟩ ⟨en,⟨ep,evn,ec⟩,⟨efp,efn,efc⟩⟩ dl3 pe dj) (g 77) w2:=yr hR 16
         obtain⟨⟨r3n,⟨r3p,r3vn,r3c⟩,⟨r3fp,r3fn,r3fc⟩⟩,e16,hJD⟩:=e16
         obtain⟨b17,p17,e17,c17⟩:=Q1 (zA hR (j:=17) (by decide)) rfl rfl
         clear hR;simp only[za,fLa,fLb,sTa,sTb]
         simp only[e0,e1,e2,e3,e4,e5,e6,e7,e8,e9,e10,e11,e12,e13,e14,e15,e16,e17]
         clear e0 e1 e2 e3 e4 e5 e6 e7 e8 e9 e10 e11 e12 e13 e14 e15 e16 e17
         replace hL:=hL.join hb p17 c17 (S:=yy xs gs l3) (T:=zbj evs ⟨some ⟨be,oe,none⟩,sn,sc⟩ o.es) cMm cMm  HTX.out HTE.out HDJ.out hJD;clear p17 c17 hJD;simp only[List.cons_append,List.nil_append]at hL
         clear hb
         go_upto_region 20 with(first|(with_reducible refine zd hL ?_;clear hL;intro w1 hL))
         obtain⟨wq,hwq⟩:∃ x,x=w1:=⟨_,rfl⟩
         subst hwq
         have hpr:=hL.get (S:=fun w=>zN w ⟨r3n,⟨r3p,r3vn,r3c⟩,⟨r3fp,r3fn,r3fc⟩⟩ dj) cMm
         have hpx:=HTX.out _ (hL.get (S:=yy xs gs l3) cMm)
         have HSP:=Lib.hid (fun w' (hb:Below wq.heap.size wq w')=>HSM.out ⟨r3n,⟨r3p,r3vn,r3c⟩,⟨r3fp,r3fn,r3fc⟩⟩ w' (hpr.grow hb) (hpx.grow hb))
         clear hpr hpx HJ HR6 HR7 HSM
         refine zf [78,79,80,81,82,83,84] ?_
         refine dv0 ?_
         refine dv0 ?_
         refine dv0 ?_
         refine dv2 1 2 ?_
         apply zb
         ·intro g w hb V;replace hL:=hL.grow hb;have d3:=yv V 3;clear V;simp only[za,fLa,fLb,sTa,sTb];simp only[d3]
          refine zR hL rfl rfl cIn HG2.out ?_
          exact cY
         simp only[apN,apC]
         apply zb
         ·intro g w hb V;replace hL:=hL.grow hb;have d0:=yv V 0;have d4:=yv V 4;clear V;simp only[za,fLa,fLb,sTa,sTb];simp only[d0,d4]
          go_wp2_with (go_at_call 29;refine(HSP.out _ hb).mono ?_;rintro e w3 ⟨rfl,hb3⟩;dsimp only)
          exact⟨rfl,_,rfl,hb3,rfl⟩
         simp only[apN,apC]
         refine dv1 5 ?_
         refine dnd hL ?_
         clear hL;intro w3 hL;simp only[zV,sTa,sTb]
         clear HSP
         cases sm with
         | true=>
          have hnf:=HNF.out
          rw[if_pos rfl]at hnf
          have HNF2:=Lib.hid hnf
          clear hnf HNF
          go_wp2
          go_roundw
          case rel=>
           exact⟨j+1,l3,ch3,xs,gs,cr,rfl,by go_num,hlj,HNF2.out,HXL.out,HGL.out,HR3.out,hL.drop (.cons_cons _ (.cons_cons _ (.cons _ (List.Sublist.refl _)))) (fun _ h=>List.mem_cons_of_mem _ h)⟩
          case measure=>simp[intOf];omega
         | false=>
          have hnf:=HNF.out
          rw[if_neg (by decide)]at hnf
          have HNF2:=Lib.hid hnf
          clear hnf HNF
          obtain⟨gx3,hL'⟩:=hL.gx
          clear hL
          have hL:=hL'.drop (D':=[fun w=>Y2 w ⟨r3n,⟨r3p,r3vn,r3c⟩,⟨r3fp,r3fn,r3fc⟩⟩ dj gx3,yy xs gs l3,zbj evs ⟨some ⟨be,oe,none⟩,sn,sc⟩ o.es]) (List.Sublist.refl _) (fun S hS=>by
           simp only[List.mem_cons,List.not_mem_nil,or_false]at hS ⊢
           rcases hS with rfl|rfl|rfl<;>simp)
          clear hL'
          replace hL:=hL.both (U:=yy (xs.set t ⟨r3n,⟨r3p,r3vn,r3c⟩,⟨r3fp,r3fn,r3fc⟩⟩) (gs.set t gx3) (l3.set t dj)) (fun w h1 h2=>HSET.out w _ _ _ h1 h2)
          go_wp2_with (first|(refine qa (b:=bk) (off:=t*3) (vs:=Pv.cells ⟨r3n,⟨r3p,r3vn,r3c⟩,⟨r3fp,r3fn,r3fc⟩⟩) (cs':=zk cr (t*3) (Pv.cells ⟨r3n,⟨r3p,r3vn,r3c⟩,⟨r3fp,r3fn,r3fc⟩⟩)) hL rfl rfl cIn rfl ZK.sz rfl HSZ.out rfl ?_;clear hL;intro w' hL)|(with_reducible refine lld hL ?_))
          go_roundw
          case rel=>
           refine⟨j+1,l3.set t dj,true,xs.set t ⟨r3n,⟨r3p,r3vn,r3c⟩,⟨r3fp,r3fn,r3fc⟩⟩,gs.set t gx3,zk cr (t*3) (Pv.cells ⟨r3n,⟨r3p,r3vn,r3c⟩,⟨r3fp,r3fn,r3fc⟩⟩),rfl,by go_num,hlj,HNF2.out,by rw[List.length_set];exact HXL.out,by rw[List.length_set];exact HGL.out,HPUT.out _,hL.drop (.cons_cons _ (.cons_cons _ (.cons _ (List.Sublist.refl _)))) (fun S hS=>?_)⟩
           simp only[List.mem_cons,List.not_mem_nil,or_false]at hS ⊢
           rcases hS with rfl|rfl<;>simp
          case measure=>simp[intOf];omega
        ·obtain rfl:j=o.es.length:=by omega
         rw[List.take_length]at hfo
         rw[hfo]at HNXT
         have HR3:=Lib.hid hR
         clear hW hsm hxl hgl hR hfo hlj
         subst hsn
         go_wp2
         go_roundw
         case rel=>
          exact⟨i+1,l3,ch3,xs,gs,cr,rfl,by go_num,hlt,HNXT.out,HXL.out,HGL.out,HR3.out,hL.drop (List.Sublist.refl _) (fun _ h=>List.mem_cons_of_mem _ h)⟩
         case measure=>simp[intOf];omega
      ·obtain rfl:i=k:=by omega
       have HR3:=Lib.hid hR
       have hsn:=HSN.out m
       rw[heq]at hsn
       dsimp only at hsn
       have HSN2:=Lib.hid hsn
       clear hlt hxl hgl hR heq hsn
       go_wp2_with (first|(with_reducible refine lld hL ?_))
       go_roundw
       case rel=>
        refine⟨m+1,ch,xs,gs,cr,by go_num,rfl,fun h j hj=>?_,fun h=>⟨m,rfl,HSN2.out.1.trans h,HJ.out⟩,HXL.out,HGL.out,HR3.out,by rw[HSN2.out.2];exact hL⟩
        rcases Nat.lt_or_ge j m with h3|h3
        ·exact HJ.out j h3
        ·obtain rfl:j=m:=by omega
         exact HSN2.out.1.trans h
       case measure=>simp[intOf];omega
end Go.Proofs.YtplcndmdkabmeaaGreatDoor
