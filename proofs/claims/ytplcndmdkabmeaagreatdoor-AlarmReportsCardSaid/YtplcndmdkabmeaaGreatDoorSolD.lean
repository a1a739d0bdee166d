/- The walks over bits.Mul (small numbers) and slices.Repeat at one picture. Conditions: what they read lies in memory that was there. -/
import Derived.Test.YtplcndmdkabmeaaGreatDoorSolC
import Derived.Test.YtplcndmdkabmeaaGreatDoorPicd
import Derived.Test.YtplcndmdkabmeaaGreatDoorGua
set_option linter.unusedSimpArgs false
set_option linter.unusedVariables false
set_option maxRecDepth 100000
set_option maxHeartbeats 1600000
namespace Go.Proofs.YtplcndmdkabmeaaGreatDoor
open Go.RowKit
theorem zc5 (n:Int) (hn:0≤n∧n≤61) (w:World):
  Calls Tryz.prog 209 #[.int .u64 1,.int .u64 n] w fun e w'=>e=.returned (.tuple #[.int .u64 0,.int .u64 n])∧Below w.heap.size w w':=by
 obtain rfl|rfl|rfl|rfl|rfl|rfl|rfl|rfl|rfl|rfl|rfl|rfl|rfl|rfl|rfl|rfl|rfl|rfl|rfl|rfl|rfl|rfl|rfl|rfl|rfl|rfl|rfl|rfl|rfl|rfl|rfl|rfl|rfl|rfl|rfl|rfl|rfl|rfl|rfl|rfl|rfl|rfl|rfl|rfl|rfl|rfl|rfl|rfl|rfl|rfl|rfl|rfl|rfl|rfl|rfl|rfl|rfl|rfl|rfl|rfl|rfl|rfl:n=0∨n=1∨n=2∨n=3∨n=4∨n=5∨n=6∨n=7∨n=8∨n=9∨n=10∨n=11∨n=12∨n=13∨n=14∨n=15∨n=16∨n=17∨n=18∨n=19∨n=20∨n=21∨n=22∨n=23∨n=24∨n=25∨n=26∨n=27∨n=28∨n=29∨n=30∨n=31∨n=32∨n=33∨n=34∨n=35∨n=36∨n=37∨n=38∨n=39∨n=40∨n=41∨n=42∨n=43∨n=44∨n=45∨n=46∨n=47∨n=48∨n=49∨n=50∨n=51∨n=52∨n=53∨n=54∨n=55∨n=56∨n=57∨n=58∨n=59∨n=60∨n=61:=by omega
 all_goals
  clear hn
  have hL:=Loc.start w
  go_enter Tryz.func209,Tryz.ntmps209
  go_wp2_with (first|(with_reducible first|refine lld hL ?_|((first|refine lbx hL ?_|refine lal hL ?_|refine lbs hL ?_);clear hL;intro bl w1 hL)|(refine zd hL ?_;clear hL;intro w1 hL)))
  (try simp only[Exit.inBlock,Exit.then]);refine rt2 ?_
  exact⟨rfl,hL.below⟩
theorem zfx (n:Int) (hn:0≤n∧n≤61) (w:World):
  Calls Tryz.prog 166 #[.int .u64 1,.int .u64 n] w fun e w'=>e=.returned (.tuple #[.int .u64 0,.int .u64 n])∧Below w.heap.size w w':=by
 have HM:=Lib.hid (fun w'=>zc5 n hn w')
 clear hn
 have hL:=Loc.start w
 go_enter Tryz.func166,Tryz.ntmps166
 go_wp2_with (first|(with_reducible first|refine lld hL ?_|((first|refine lbx hL ?_|refine lal hL ?_|refine lbs hL ?_);clear hL;intro bl w1 hL)|(refine zd hL ?_;clear hL;intro w1 hL))|(go_at_call 209;refine(HM.out _).mono ?_;rintro e w1 ⟨rfl,hb⟩;replace hL:=hL.grow hb;clear hb;dsimp only))
 (try simp only[Exit.inBlock,Exit.then]);refine rt2 ?_
 exact⟨rfl,hL.below⟩
theorem zfN:Qx Tryz.prog 54 56:=⟨by kernel_rfl⟩
abbrev QD:List Value:=[.bool false,.slice none 0 0,.slice none 0 0]
def QV (c:List Value) (k m:Nat):List Value:=(List.replicate k c++List.replicate m QD).flatten
theorem Vr {c:List Value}(h:c.length=3) (k m:Nat):(QV c k m).length=(k+m)*3:=by
 unfold QV
 rw[List.flatten_append,List.length_append]
 have:∀ (x:List Value) (i:Nat),x.length=3→(List.replicate i x).flatten.length=i*3:=by
  intro x i hx
  induction i with
  | zero=>simp
  | succ i ih=>rw[List.replicate_succ,List.flatten_cons,List.length_append,hx,ih];omega
 rw[this c k h,this QD m rfl];omega
theorem Jr {c:List Value}(h:c.length=3) (k:Nat):(List.replicate k c).flatten.length=k*3:=by
 have:=Vr h k 0
 simpa [QV] using this
theorem Kt {c:List Value}(h:c.length=3) (k m r:Nat):zk (QV c k (m+r)) (k*3) ((List.replicate m c).flatten)=QV c (k+m) r:=by
 have h1:QV c k (m+r)=(List.replicate k c).flatten++((List.replicate m QD).flatten++(List.replicate r QD).flatten):=by
  unfold QV
  rw[← List.flatten_append,← List.flatten_append,List.replicate_append_replicate]
 have h2:QV c (k+m) r=(List.replicate k c).flatten++((List.replicate m c).flatten++(List.replicate r QD).flatten):=by
  unfold QV
  rw[← List.replicate_append_replicate,List.append_assoc,List.flatten_append,List.flatten_append]
 have hk:=Jr h k
 have hm:=Jr h m
 have hz:=Jr (c:=QD) rfl m
 unfold zk
 rw[h1,h2,hm]
 rw[List.take_left' hk]
 congr 1
 rw[← List.append_assoc (List.replicate k c).flatten,List.drop_left' (by rw[List.length_append,hk,hz])]
theorem XB {c:List Value}(k m r:Nat):∀ (j:Nat) (u:Value),((List.replicate m c).flatten)[j]? = some u→(QV c (m+k) r)[j]? = some u:=by
 intro j u hj
 unfold QV
 rw[← List.replicate_append_replicate,List.append_assoc,List.flatten_append,List.getElem?_append_left (List.getElem?_eq_some_iff.1 hj).1]
 exact hj
theorem zbn {c:List Value}(h:c.length=3) (k m r:Nat):zk (QV c (k+m) r) (k*3) ((List.replicate m c).flatten)=QV c (k+m) r:=by
 have h2:QV c (k+m) r=(List.replicate k c).flatten++((List.replicate m c).flatten++(List.replicate r QD).flatten):=by
  unfold QV
  rw[← List.replicate_append_replicate,List.append_assoc,List.flatten_append,List.flatten_append]
 have hk:=Jr h k
 have hm:=Jr h m
 unfold zk
 rw[h2,hm]
 rw[List.take_left' hk]
 congr 1
 rw[← List.append_assoc (List.replicate k c).flatten,List.drop_left' (by rw[List.length_append,hk,hm])]
theorem zaa (c:List Value) (hc:c.length=3) (h1:∀ u∈c,u.oneCell'=true) (b n:Nat) (hn:n≤61) (w:World) (hh:w.heap[b]? = some (.cells c.toArray 54 (0,0))):
  Calls Tryz.prog 110 #[.slice (some ⟨b,0,none⟩) 1 1,.int .i64 n] w fun e w'=>∃ r,e=.returned (.slice (some ⟨r,0,none⟩) n n)∧Loc w w' [(r,54,(List.replicate n c).flatten)] []:=by
 have HM:=Lib.hid (fun w'=>zfx (n:Int) ⟨by omega,by omega⟩ w')
 have HH:=Lib.hid (fun (w' : World) (hb:Below w.heap.size w w') j u (hj:c[j]? = some u)=>show w'.cell? ⟨b,j,none⟩=some u by rw[hb.cell (p:=⟨b,j,none⟩) (zL hh)];simp[World.cell?,hh,hj])
 clear hh
 have HC:=Lib.hid hc
 have H1:=Lib.hid h1
 have HR1:=Lib.hid (fun k (_:k≤n) u (hu:u∈(List.replicate k c).flatten)=>show u.oneCell'=true by
  obtain⟨x,hx,hux⟩:=List.mem_flatten.1 hu
  rw[(List.mem_replicate.1 hx).2]at hux
  exact h1 u hux)
 obtain⟨m0,hm0⟩:∃ m,m=Nat.min 1 n:=⟨_,rfl⟩
 have hm1:m0≤1:=hm0▸Nat.min_le_left 1 n
 have hm2:m0≤n:=hm0▸Nat.min_le_right 1 n
 have hm3:n=0∨m0=1:=by
  rcases Nat.eq_zero_or_pos n with h|h
  ·exact .inl h
  ·exact .inr (hm0.trans (Nat.min_eq_left h))
 have hn1:∀ (w' : World),Below w.heap.size w w'→∀ (j:Nat) (u:Value),((List.replicate m0 c).flatten)[j]? = some u→w'.cell? ((⟨b,0,none⟩:Addr).add j)=some u:=by
  intro w' hb j u hj
  rw[zH,Nat.zero_add]
  have:m0=0∨m0=1:=by omega
  rcases this with h|h
  ·rw[h]at hj;simp at hj
  ·rw[h]at hj;exact HH.out w' hb j u (by simpa using hj)
 have hs0:zk (List.replicate n QD).flatten 0 ((List.replicate m0 c).flatten)=QV c m0 (n - m0):=by
  have h2:=Kt hc 0 m0 (n - m0)
  rw[Nat.add_sub_cancel' hm2]at h2
  simpa [QV] using h2
 have HM0:=Lib.hid hm0
 have HM3:=Lib.hid hm3
 clear hm0 hm3
 have HN1:=Lib.hid hn1
 have HS0:=Lib.hid hs0
 clear hc h1 hn1 hs0 HH
 have hL:=Loc.start w
 go_enter Tryz.func110,Tryz.ntmps110
 go_upto_region 6 with(first|(with_reducible first|refine lld hL ?_|((first|refine lbx hL ?_|refine lal hL ?_|refine lbs hL ?_);clear hL;intro bl w1 hL)|(refine zd hL ?_;clear hL;intro w1 hL))|(go_at_call 166;refine(HM.out _).mono ?_;rintro e w1 ⟨rfl,hb⟩;replace hL:=hL.grow hb;clear hb;dsimp only))
 go_upto_region 7 with(first|(with_reducible first|refine lld hL ?_|((first|refine lbx hL ?_|refine lal hL ?_|refine lbs hL ?_);clear hL;intro bl w1 hL)|(refine zd hL ?_;clear hL;intro w1 hL))|(refine GH hL rfl Ut zfN rfl rfl (by omega) (by omega) ?_;clear hL;intro r w1 hL))
 go_upto_region 8 with(first|(refine Zf (b:=r) (off:=0) (n:=n) (c:=n) (ad:=⟨b,0,none⟩) (m:=1) (cm:=1) (news:=(List.replicate m0 c).flatten) hL rfl rfl InL.head rfl Ut (by rw[Jr HC.out,← HM0.out];rfl) (HN1.out _ hL.below) (HR1.out _ hm2) (by rw[Jr HC.out,Jr (c:=QD) rfl];omega) (HS0.out) ?_;clear hL;intro w1 hL;rw[← HM0.out])|(with_reducible first|refine lld hL ?_|((first|refine lbx hL ?_|refine lal hL ?_|refine lbs hL ?_);clear hL;intro bl w1 hL)|(refine zd hL ?_;clear hL;intro w1 hL)))
 go_loopw [8] (fun c8 wr=>∃ k:Nat,k≤n∧m0≤k∧c8=.int .i64 k∧Loc w wr [(r,54,QV c k (n - k))] []) (fun c _=>n - (intOf c).toNat)
 case atStart=>exact⟨m0,hm2,Nat.le_refl _,rfl,hL⟩
 case round=>
  obtain⟨k,hk,hk0,rfl,hL⟩:=hrel
  by_cases hlt:k<n
  ·have hk1:1≤k:=by have:=HM3.out;omega
   obtain⟨m1,hm1'⟩:∃ m,m=Nat.min k (n - k):=⟨_,rfl⟩
   have h2:m1≤k:=hm1'▸Nat.min_le_left k (n - k)
   have h3:m1≤n - k:=hm1'▸Nat.min_le_right k (n - k)
   have h4:1≤m1:=by rw[hm1'];exact Nat.le_min.2 ⟨hk1,by omega⟩
   have HM1:=Lib.hid hm1'
   have hs1:zk (QV c k (n - k)) (k*3) ((List.replicate m1 c).flatten)=QV c (k+m1) (n - (k+m1)):=by
    have e:=Kt HC.out k m1 (n - (k+m1))
    rwa [show m1+(n - (k+m1))=n - k by omega]at e
   have hs2:=zbn HC.out k m1 (n - (k+m1))
   have hrd1:∀ (j:Nat) (u:Value),((List.replicate m1 c).flatten)[j]? = some u→(QV c k (n - k))[j]? = some u:=fun j u hj=>by
    have e:=XB (c:=c) (k - m1) m1 (n - k) j u hj
    rwa [show m1+(k - m1)=k by omega]at e
   have hrd2:∀ (j:Nat) (u:Value),((List.replicate m1 c).flatten)[j]? = some u→(QV c (k+m1) (n - (k+m1)))[j]? = some u:=fun j u hj=>by
    have e:=XB (c:=c) k m1 (n - (k+m1)) j u hj
    rwa [Nat.add_comm m1 k]at e
   have hl1:=Vr HC.out k (n - k)
   have hl2:=Vr HC.out (k+m1) (n - (k+m1))
   obtain⟨C1,hC1⟩:∃ C,C=QV c (k+m1) (n - (k+m1)):=⟨_,rfl⟩
   rw[← hC1]at hs1 hs2 hrd2 hl2
   have HC1:=Lib.hid hC1
   clear hC1
   generalize QV c k (n - k)=C0 at hL hs1 hrd1 hl1
   have hR:=HR1.out m1 (by omega)
   have hnl:=Jr HC.out m1
   generalize (List.replicate m1 c).flatten=N1 at hs1 hs2 hrd1 hrd2 hR hnl
   have HS1:=Lib.hid hs1
   have HS2:=Lib.hid hs2
   have HRD1:=Lib.hid hrd1
   have HRD2:=Lib.hid hrd2
   have HL1:=Lib.hid hl1
   have HL2:=Lib.hid hl2
   have HRO:=Lib.hid hR
   have HNL:=Lib.hid hnl
   clear hm1' hs1 hs2 hrd1 hrd2 hl1 hl2 hR hnl HM3 HR1 H1 HN1 HS0 HM
   go_upto_region 9 with(first|(with_reducible first|refine lld hL ?_|((first|refine lbx hL ?_|refine lal hL ?_|refine lbs hL ?_);clear hL;intro bl w1 hL)|(refine zd hL ?_;clear hL;intro w1 hL)))
   have h0:=hL.conv (L':=(fun l=>[(r,54,bif lst l 7 then C1 else C0)]) (Array.replicate 10 false)) (by simp only[Zy,cond_false])
   refine Uq (w0:=_) [38,39,40,41,42,43,44,45,46,8] [(0,38,.int .i64 k),(1,39,.slice (some ⟨r,0,none⟩) n n),(2,40,.int .i64 k),(3,41,.slice (some ⟨r,k*3,none⟩) (n - k) (n - k)),(4,42,.slice (some ⟨r,0,none⟩) n n),(5,43,.int .i64 k),(6,44,.slice (some ⟨r,0,none⟩) k n),(7,45,.int .i64 m1),(8,46,.int .i64 ((k:Int)+m1)),(9,8,.int .i64 ((k:Int)+m1))] [(9,8,.int .i64 k)] (fun l=>[(r,54,bif lst l 7 then C1 else C0)]) (by kernel_rfl) (by kernel_rfl) h0 (by intro e he;(rcases List.mem_cons.1 he with rfl|he;· rfl);cases he) ⟨?_,?_,?_,?_,?_,?_,?_,?_,?_,?_,trivial⟩ ?_
   all_goals clear hL h0
   ·intro l g w hi hI v hU
    have hL:=hI.inv.loc
    try dsimp only at hL
    have d9:=hU (9,8,.int .i64 k) cMm (show Z5 _ (9:Nat) (0:Nat)=true from by decide)
    try dsimp only at d9
    refine qL (d:=38) (x:=.int .i64 k) (L:=[(r,54,bif lst l 7 then C1 else C0)]) (by kernel_rfl) cMm hi hI (by simp only[zc (show (7:Nat)≠0 by decide)]) ?_
    clear v hU
    simp only[za,fLa,fLb,sTa,sTb]
    simp only[d9]
    go_wp2
    (try exact⟨rfl,(by first|rfl|(go_num;done)),hL⟩)
   ·intro l g w hi hI v hU
    have hL:=hI.inv.loc
    try dsimp only at hL
    refine qL (d:=39) (x:=.slice (some ⟨r,0,none⟩) n n) (L:=[(r,54,bif lst l 7 then C1 else C0)]) (by kernel_rfl) cMm hi hI (by simp only[zc (show (7:Nat)≠1 by decide)]) ?_
    clear v hU
    simp only[za,fLa,fLb,sTa,sTb]
    go_wp2
    (try exact⟨rfl,(by first|rfl|(go_num;done)),hL⟩)
   ·intro l g w hi hI v hU
    have hL:=hI.inv.loc
    try dsimp only at hL
    have d9:=hU (9,8,.int .i64 k) cMm (show Z5 _ (9:Nat) (2:Nat)=true from by decide)
    try dsimp only at d9
    refine qL (d:=40) (x:=.int .i64 k) (L:=[(r,54,bif lst l 7 then C1 else C0)]) (by kernel_rfl) cMm hi hI (by simp only[zc (show (7:Nat)≠2 by decide)]) ?_
    clear v hU
    simp only[za,fLa,fLb,sTa,sTb]
    simp only[d9]
    go_wp2
    (try exact⟨rfl,(by first|rfl|(go_num;done)),hL⟩)
   ·intro l g w hi hI v hU
    have hL:=hI.inv.loc
    try dsimp only at hL
    have d1:=hI.inv.vals (1,39,.slice (some ⟨r,0,none⟩) n n) cMm (v 1 (by decide))
    try dsimp only at d1
    have d2:=hI.inv.vals (2,40,.int .i64 k) cMm (v 2 (by decide))
    try dsimp only at d2
    refine qL (d:=41) (x:=.slice (some ⟨r,k*3,none⟩) (n - k) (n - k)) (L:=[(r,54,bif lst l 7 then C1 else C0)]) (by kernel_rfl) cMm hi hI (by simp only[zc (show (7:Nat)≠3 by decide)]) ?_
    clear v hU
    simp only[za,fLa,fLb,sTa,sTb]
    simp only[d1,d2]
    (refine Uo (ad:=⟨r,0,none⟩) (q:=⟨r,k*3,none⟩) (l:=k) (n:=n) (c:=n) rfl Ut rfl rfl (by omega) hlt (by rw[zH,Nat.zero_add];rfl) ?_)
    (try exact⟨rfl,(by first|rfl|(go_num;done)),hL⟩)
   ·intro l g w hi hI v hU
    have hL:=hI.inv.loc
    try dsimp only at hL
    refine qL (d:=42) (x:=.slice (some ⟨r,0,none⟩) n n) (L:=[(r,54,bif lst l 7 then C1 else C0)]) (by kernel_rfl) cMm hi hI (by simp only[zc (show (7:Nat)≠4 by decide)]) ?_
    clear v hU
    simp only[za,fLa,fLb,sTa,sTb]
    go_wp2
    (try exact⟨rfl,(by first|rfl|(go_num;done)),hL⟩)
   ·intro l g w hi hI v hU
    have hL:=hI.inv.loc
    try dsimp only at hL
    have d9:=hU (9,8,.int .i64 k) cMm (show Z5 _ (9:Nat) (5:Nat)=true from by decide)
    try dsimp only at d9
    refine qL (d:=43) (x:=.int .i64 k) (L:=[(r,54,bif lst l 7 then C1 else C0)]) (by kernel_rfl) cMm hi hI (by simp only[zc (show (7:Nat)≠5 by decide)]) ?_
    clear v hU
    simp only[za,fLa,fLb,sTa,sTb]
    simp only[d9]
    go_wp2
    (try exact⟨rfl,(by first|rfl|(go_num;done)),hL⟩)
   ·intro l g w hi hI v hU
    have hL:=hI.inv.loc
    try dsimp only at hL
    have d4:=hI.inv.vals (4,42,.slice (some ⟨r,0,none⟩) n n) cMm (v 4 (by decide))
    try dsimp only at d4
    have d5:=hI.inv.vals (5,43,.int .i64 k) cMm (v 5 (by decide))
    try dsimp only at d5
    refine qL (d:=44) (x:=.slice (some ⟨r,0,none⟩) k n) (L:=[(r,54,bif lst l 7 then C1 else C0)]) (by kernel_rfl) cMm hi hI (by simp only[zc (show (7:Nat)≠6 by decide)]) ?_
    clear v hU
    simp only[za,fLa,fLb,sTa,sTb]
    simp only[d4,d5]
    (refine Up (b:=r) (off:=0) (l:=k) (n:=n) (c:=n) rfl Ut rfl rfl hk ?_)
    (try exact⟨rfl,(by first|rfl|(go_num;done)),hL⟩)
   ·intro l g w hi hI v hU
    have hL:=hI.inv.loc
    try dsimp only at hL
    have d3:=hI.inv.vals (3,41,.slice (some ⟨r,k*3,none⟩) (n - k) (n - k)) cMm (v 3 (by decide))
    try dsimp only at d3
    have d6:=hI.inv.vals (6,44,.slice (some ⟨r,0,none⟩) k n) cMm (v 6 (by decide))
    try dsimp only at d6
    refine qL (d:=45) (x:=.int .i64 m1) (L:=[(r,54,C1)]) (by kernel_rfl) cMm hi hI (by simp only[qO hi,cond_true]) ?_
    clear v hU
    simp only[za,fLa,fLb,sTa,sTb]
    simp only[d3,d6]
    generalize lst l 7=qst at hL
    cases qst
    all_goals
     simp only[cond_true,cond_false]at hL
     (first|(refine Zf (b:=r) (off:=k*3) (n:=n - k) (c:=n - k) (ad:=⟨r,0,none⟩) (m:=k) (cm:=n) (news:=N1) (cs':=C1) hL rfl rfl InL.head rfl Ut (by rw[HNL.out,← HM1.out];rfl) (fun j u hj=>by rw[zH,Nat.zero_add,hL.cell InL.head];exact HRD1.out j u hj) HRO.out (by rw[HNL.out,HL1.out];omega) HS1.out ?_)|(refine Zf (b:=r) (off:=k*3) (n:=n - k) (c:=n - k) (ad:=⟨r,0,none⟩) (m:=k) (cm:=n) (news:=N1) (cs':=C1) hL rfl rfl InL.head rfl Ut (by rw[HNL.out,← HM1.out];rfl) (fun j u hj=>by rw[zH,Nat.zero_add,hL.cell InL.head];exact HRD2.out j u hj) HRO.out (by rw[HNL.out,HL2.out];omega) HS2.out ?_));clear hL;intro w1 hL;rw[← HM1.out]
     exact⟨rfl,rfl,hL⟩
   ·intro l g w hi hI v hU
    have hL:=hI.inv.loc
    try dsimp only at hL
    have d0:=hI.inv.vals (0,38,.int .i64 k) cMm (v 0 (by decide))
    try dsimp only at d0
    have d7:=hI.inv.vals (7,45,.int .i64 m1) cMm (v 7 (by decide))
    try dsimp only at d7
    refine qL (d:=46) (x:=.int .i64 ((k:Int)+m1)) (L:=[(r,54,bif lst l 7 then C1 else C0)]) (by kernel_rfl) cMm hi hI (by simp only[zc (show (7:Nat)≠8 by decide)]) ?_
    clear v hU
    simp only[za,fLa,fLb,sTa,sTb]
    simp only[d0,d7]
    go_wp2
    (try exact⟨rfl,(by first|rfl|(go_num;done)),hL⟩)
   ·intro l g w hi hI v hU
    have hL:=hI.inv.loc
    try dsimp only at hL
    have d8:=hI.inv.vals (8,46,.int .i64 ((k:Int)+m1)) cMm (v 8 (by decide))
    try dsimp only at d8
    refine qL (d:=8) (x:=.int .i64 ((k:Int)+m1)) (L:=[(r,54,bif lst l 7 then C1 else C0)]) (by kernel_rfl) cMm hi hI (by simp only[zc (show (7:Nat)≠9 by decide)]) ?_
    clear v hU
    simp only[za,fLa,fLb,sTa,sTb]
    simp only[d8]
    go_wp2
    (try exact⟨rfl,(by first|rfl|(go_num;done)),hL⟩)
   intro g w2 l hl hL hX
   simp only[hl 7 (by decide),cond_true]at hL
   have e0:=hX (0,38,.int .i64 k) cMm (show (0:Nat)<10 by decide)
   have e1:=hX (1,39,.slice (some ⟨r,0,none⟩) n n) cMm (show (1:Nat)<10 by decide)
   have e2:=hX (2,40,.int .i64 k) cMm (show (2:Nat)<10 by decide)
   have e3:=hX (3,41,.slice (some ⟨r,k*3,none⟩) (n - k) (n - k)) cMm (show (3:Nat)<10 by decide)
   have e4:=hX (4,42,.slice (some ⟨r,0,none⟩) n n) cMm (show (4:Nat)<10 by decide)
   have e5:=hX (5,43,.int .i64 k) cMm (show (5:Nat)<10 by decide)
   have e6:=hX (6,44,.slice (some ⟨r,0,none⟩) k n) cMm (show (6:Nat)<10 by decide)
   have e7:=hX (7,45,.int .i64 m1) cMm (show (7:Nat)<10 by decide)
   have e8:=hX (8,46,.int .i64 ((k:Int)+m1)) cMm (show (8:Nat)<10 by decide)
   have e9:=hX (9,8,.int .i64 ((k:Int)+m1)) cMm (show (9:Nat)<10 by decide)
   try dsimp only at e0 e1 e2 e3 e4 e5 e6 e7 e8 e9
   clear hX hl
   simp only[za,fLa,fLb,sTa,sTb]
   simp only[e0,e1,e2,e3,e4,e5,e6,e7,e8,e9]
   clear e0 e1 e2 e3 e4 e5 e6 e7 e8 e9
   rw[HC1.out]at hL
   go_roundw
   case rel=>
    refine⟨_,_,_,_,_,_,_,_,_,_,_,_,_,_,?_,rfl⟩
    exact⟨k+m1,by omega,by omega,by go_num,hL⟩
   case measure=>simp[intOf];omega
  ·obtain rfl:k=n:=by omega
   clear hlt
   go_wp2_with (first|(with_reducible first|refine lld hL ?_|((first|refine lbx hL ?_|refine lal hL ?_|refine lbs hL ?_);clear hL;intro bl w1 hL)|(refine zd hL ?_;clear hL;intro w1 hL)))
   (try simp only[Exit.inBlock,Exit.then]);refine rt1 ?_
   exact⟨r,rfl,hL.conv (by simp[QV])⟩
end Go.Proofs.YtplcndmdkabmeaaGreatDoor
