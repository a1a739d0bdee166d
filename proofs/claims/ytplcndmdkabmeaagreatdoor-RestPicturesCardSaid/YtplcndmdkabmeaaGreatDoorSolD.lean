/- The walks over bits.Mul (small numbers) and slices.Repeat at one picture. Conditions: what they read lies in memory that was there. -/
import Derived.Test.YtplcndmdkabmeaaGreatDoorSolC
import Derived.Test.YtplcndmdkabmeaaGreatDoorPicd
import Derived.Test.YtplcndmdkabmeaaGreatDoorGua
set_option linter.unusedSimpArgs false
set_option linter.unusedVariables false
set_option maxRecDepth 100000
set_option maxHeartbeats 1600000
namespace Go.Proofs.YtplcndmdkabmeaaGreatDoor
open Go.Proofs.Tryz
open Go.RowKit
theorem zei (n:Int) (hn:0<=n∧n<=61) (w:World):
  Calls prog 209 #[.int .u64 1,.int .u64 n] w fun e g=>e=.returned (.tuple #[.int .u64 0,.int .u64 n])∧Below w.heap.size w g:=by
 obtain rfl|rfl|rfl|rfl|rfl|rfl|rfl|rfl|rfl|rfl|rfl|rfl|rfl|rfl|rfl|rfl|rfl|rfl|rfl|rfl|rfl|rfl|rfl|rfl|rfl|rfl|rfl|rfl|rfl|rfl|rfl|rfl|rfl|rfl|rfl|rfl|rfl|rfl|rfl|rfl|rfl|rfl|rfl|rfl|rfl|rfl|rfl|rfl|rfl|rfl|rfl|rfl|rfl|rfl|rfl|rfl|rfl|rfl|rfl|rfl|rfl|rfl:n=0∨n=1∨n=2∨n=3∨n=4∨n=5∨n=6∨n=7∨n=8∨n=9∨n=10∨n=11∨n=12∨n=13∨n=14∨n=15∨n=16∨n=17∨n=18∨n=19∨n=20∨n=21∨n=22∨n=23∨n=24∨n=25∨n=26∨n=27∨n=28∨n=29∨n=30∨n=31∨n=32∨n=33∨n=34∨n=35∨n=36∨n=37∨n=38∨n=39∨n=40∨n=41∨n=42∨n=43∨n=44∨n=45∨n=46∨n=47∨n=48∨n=49∨n=50∨n=51∨n=52∨n=53∨n=54∨n=55∨n=56∨n=57∨n=58∨n=59∨n=60∨n=61:=by omega
 all_goals
  clear hn;have J:=Loc.start w;go_enter func209,ntmps209;go_wp2_with (with_reducible first|refine lld J ?_|((first|refine lbx J ?_|refine lal J ?_|refine lbs J ?_);clear J;intro j i J)|(refine zc J ?_;clear J;intro i J))
  (try simp only[Exit.inBlock,Exit.then]);refine rt2 ?_
  exact⟨rfl,J.below⟩
theorem zg1 (n:Int) (hn:0<=n∧n<=61) (w:World):
  Calls prog 166 #[.int .u64 1,.int .u64 n] w fun e g=>e=.returned (.tuple #[.int .u64 0,.int .u64 n])∧Below w.heap.size w g:=by
 have j:=za (fun g=>zei n hn g);clear hn;have J:=Loc.start w;go_enter func166,ntmps166;go_wp2_with (first|(with_reducible first|refine lld J ?_|((first|refine lbx J ?_|refine lal J ?_|refine lbs J ?_);clear J;intro o i J)|(refine zc J ?_;clear J;intro i J))|(go_at_call 209;refine cg J (j.out _) ?_;clear J;intro i J;dsimp only))
 (try simp only[Exit.inBlock,Exit.then]);refine rt2 ?_
 exact⟨rfl,J.below⟩
theorem zhq:yL prog 54 56:=⟨by kernel_rfl⟩
abbrev Qd:List Value:=[.bool false,.slice none 0 0,.slice none 0 0]
def QC (c:List Value) (k m:Nat):List Value:=(List.replicate k c++List.replicate m Qd).flatten
theorem VO {c:List Value}(h:c.length=3) (k m:Nat):(QC c k m).length=(k+m)*3:=by
 unfold QC;rw[List.flatten_append,List.length_append];have:∀ (x:List Value) (g:Nat),x.length=3->(List.replicate g x).flatten.length=g*3:=by
  intro x g i;induction g with
  | zero=>simp
  | succ g ih=>rw[List.replicate_succ,List.flatten_cons,List.length_append,i,ih];omega
 rw[this c k h,this Qd m rfl];omega
theorem Q9 {c:List Value}(h:c.length=3) (k:Nat):(List.replicate k c).flatten.length=k*3:=by
 have:=VO h k 0;simpa [QC] using this
theorem Kz {c:List Value}(h:c.length=3) (k m r:Nat):zj (QC c k (m+r)) (k*3) ((List.replicate m c).flatten)=QC c (k+m) r:=by
 have i:QC c k (m+r)=(List.replicate k c).flatten++((List.replicate m Qd).flatten++(List.replicate r Qd).flatten):=by
  unfold QC;rw[<- List.flatten_append,<- List.flatten_append,List.replicate_append_replicate]
 have j:QC c (k+m) r=(List.replicate k c).flatten++((List.replicate m c).flatten++(List.replicate r Qd).flatten):=by
  unfold QC;rw[<- List.replicate_append_replicate,List.append_assoc,List.flatten_append,List.flatten_append]
 have g:=Q9 h k;have o:=Q9 h m;have p:=Q9 (c:=Qd) rfl m;unfold zj;rw[i,j,o];rw[List.take_left' g];congr 1;rw[<- List.append_assoc (List.replicate k c).flatten,List.drop_left' (by rw[List.length_append,g,p])]
theorem XZ {c:List Value}(k m r:Nat):∀ (g:Nat) (u:Value),((List.replicate m c).flatten)[g]? = some u->(QC c (m+k) r)[g]? = some u:=by
 intro g u i;unfold QC;rw[<- List.replicate_append_replicate,List.append_assoc,List.flatten_append,List.getElem?_append_left (List.getElem?_eq_some_iff.1 i).1];exact i
theorem zcf {c:List Value}(h:c.length=3) (k m r:Nat):zj (QC c (k+m) r) (k*3) ((List.replicate m c).flatten)=QC c (k+m) r:=by
 have j:QC c (k+m) r=(List.replicate k c).flatten++((List.replicate m c).flatten++(List.replicate r Qd).flatten):=by
  unfold QC;rw[<- List.replicate_append_replicate,List.append_assoc,List.flatten_append,List.flatten_append]
 have g:=Q9 h k;have i:=Q9 h m;unfold zj;rw[j,i];rw[List.take_left' g];congr 1;rw[<- List.append_assoc (List.replicate k c).flatten,List.drop_left' (by rw[List.length_append,g,i])]
theorem zaZ (c:List Value) (hc:c.length=3) (a2:∀ u∈c,u.oneCell'=true) (b n:Nat) (hn:n<=61) (w:World) (a8:w.heap[b]? = some (.cells c.toArray 54 (0,0))):
  Calls prog 110 #[.slice (some ⟨b,0,none⟩) 1 1,.int .i64 n] w fun e aa=>∃ r,e=.returned (.slice (some ⟨r,0,none⟩) n n)∧Loc w aa [(r,54,(List.replicate n c).flatten)] []:=by
 have aE:=za (fun aa=>zg1 (n:Int) ⟨by omega,by omega⟩ aa);have aD:=za (fun (aa : World) (a6:Below w.heap.size w aa) o u (I:c[o]? = some u)=>show aa.cell? ⟨b,o,none⟩=some u by rw[a6.cell (p:=⟨b,o,none⟩) (zz a8)];simp[World.cell?,a8,I]);clear a8;have ac:=za hc;have aU:=za a2;have ao:=za (fun k (_:k<=n) u (bg:u∈(List.replicate k c).flatten)=>show u.oneCell'=true by
  obtain⟨x,bh,aS⟩:=List.mem_flatten.1 bg;rw[(List.mem_replicate.1 bh).2]at aS;exact a2 u aS)
 obtain⟨P,ae⟩:∃ m,m=Nat.min 1 n:=⟨_,rfl⟩;have bm:P<=1:=ae▸Nat.min_le_left 1 n;have aB:P<=n:=ae▸Nat.min_le_right 1 n;have aP:n=0∨P=1:=by
  rcases Nat.eq_zero_or_pos n with h|h
  ·exact .inl h
  ·exact .inr (ae.trans (Nat.min_eq_left h))
 have aQ:∀ (aa : World),Below w.heap.size w aa->∀ (o:Nat) (u:Value),((List.replicate P c).flatten)[o]? = some u->aa.cell? ((⟨b,0,none⟩:Addr).add o)=some u:=by
  intro aa a6 o u I;rw[zG,Nat.zero_add];have:P=0∨P=1:=by omega
  rcases this with h|h
  ·rw[h]at I;simp at I
  ·rw[h]at I;exact aD.out aa a6 o u (by simpa using I)
 have aR:zj (List.replicate n Qd).flatten 0 ((List.replicate P c).flatten)=QC c P (n - P):=by
  have a3:=Kz hc 0 P (n - P);rw[Nat.add_sub_cancel' aB]at a3;simpa [QC] using a3
 have aF:=za ae;have aH:=za aP;clear ae aP;have aI:=za aQ;have aK:=za aR;clear hc a2 aQ aR aD;have J:=Loc.start w;go_enter func110,ntmps110;go_upto_region 6 with(first|(with_reducible first|refine lld J ?_|((first|refine lbx J ?_|refine lal J ?_|refine lbs J ?_);clear J;intro ai R J)|(refine zc J ?_;clear J;intro R J))|(go_at_call 166;refine cg J (aE.out _) ?_;clear J;intro R J;dsimp only))
 go_upto_region 7 with(first|(with_reducible first|refine lld J ?_|((first|refine lbx J ?_|refine lal J ?_|refine lbs J ?_);clear J;intro ai R J)|(refine zc J ?_;clear J;intro R J))|(refine Kb J rfl UL zhq rfl rfl (by omega) (by omega) ?_;clear J;intro r R J))
 go_upto_region 8 with(first|(refine JX (b:=r) (off:=0) (n:=n) (c:=n) (ad:=⟨b,0,none⟩) (m:=1) (cm:=1) (news:=(List.replicate P c).flatten) J rfl rfl InL.head rfl UL (by rw[Q9 ac.out,<- aF.out];rfl) (aI.out _ J.below) (ao.out _ aB) (by rw[Q9 ac.out,Q9 (c:=Qd) rfl];omega) (aK.out) ?_;clear J;intro R J;rw[<- aF.out])|(with_reducible first|refine lld J ?_|((first|refine lbx J ?_|refine lal J ?_|refine lbs J ?_);clear J;intro ai R J)|(refine zc J ?_;clear J;intro R J)))
 go_loopw [8] (fun bd wr=>∃ k:Nat,k<=n∧P<=k∧bd=.int .i64 k∧Loc w wr [(r,54,QC c k (n - k))] []) (fun c _=>n - (intOf c).toNat)
 case atStart=>exact⟨P,aB,Nat.le_refl _,rfl,J⟩
 case round=>
  obtain⟨k,be,bl,rfl,J⟩:=hrel;by_cases aO:k<n
  ·have bf:1<=k:=by have:=aH.out;omega
   obtain⟨m1,af⟩:∃ m,m=Nat.min k (n - k):=⟨_,rfl⟩;have a3:m1<=k:=af▸Nat.min_le_left k (n - k);have bj:m1<=n - k:=af▸Nat.min_le_right k (n - k);have bk:1<=m1:=by rw[af];exact Nat.le_min.2 ⟨bf,by omega⟩
   have an:=za af;have ag:zj (QC c k (n - k)) (k*3) ((List.replicate m1 c).flatten)=QC c (k+m1) (n - (k+m1)):=by
    have e:=Kz ac.out k m1 (n - (k+m1));rwa [show m1+(n - (k+m1))=n - k by omega]at e
   have al:=zcf ac.out k m1 (n - (k+m1));have aj:∀ (o:Nat) (u:Value),((List.replicate m1 c).flatten)[o]? = some u->(QC c k (n - k))[o]? = some u:=fun o u I=>by
    have e:=XZ (c:=c) (k - m1) m1 (n - k) o u I;rwa [show m1+(k - m1)=k by omega]at e
   have ak:∀ (o:Nat) (u:Value),((List.replicate m1 c).flatten)[o]? = some u->(QC c (k+m1) (n - (k+m1)))[o]? = some u:=fun o u I=>by
    have e:=XZ (c:=c) k m1 (n - (k+m1)) o u I;rwa [Nat.add_comm m1 k]at e
   have a9:=VO ac.out k (n - k);have aA:=VO ac.out (k+m1) (n - (k+m1));obtain⟨C1,a4⟩:∃ C,C=QC c (k+m1) (n - (k+m1)):=⟨_,rfl⟩;rw[<- a4]at ag al ak aA;have aV:=za a4;clear a4;generalize QC c k (n - k)=T at J ag aj a9;have a5:=ao.out m1 (by omega);have aC:=Q9 ac.out m1;generalize (List.replicate m1 c).flatten=aL at ag al aj ak a5 aC;have bb:=za ag;have bc:=za al;have aZ:=za aj;have ba:=za ak;have aW:=za a9;have aY:=za aA;have aJ:=za a5;have ah:=za aC;clear af ag al aj ak a9 aA a5 aC aH ao aU aI aK aE;go_upto_region 9 with(with_reducible first|refine lld J ?_|((first|refine lbx J ?_|refine lal J ?_|refine lbs J ?_);clear J;intro ai R J)|(refine zc J ?_;clear J;intro R J))
   have aM:=J.conv (L':=(fun l=>[(r,54,bif lst l 7 then C1 else T)]) (Array.replicate 10 false)) (by simp only[KG,cond_false]);refine UG (w0:=_) [38,39,40,41,42,43,44,45,46,8] [(0,38,.int .i64 k),(1,39,.slice (some ⟨r,0,none⟩) n n),(2,40,.int .i64 k),(3,41,.slice (some ⟨r,k*3,none⟩) (n - k) (n - k)),(4,42,.slice (some ⟨r,0,none⟩) n n),(5,43,.int .i64 k),(6,44,.slice (some ⟨r,0,none⟩) k n),(7,45,.int .i64 m1),(8,46,.int .i64 ((k:Int)+m1)),(9,8,.int .i64 ((k:Int)+m1))] [(9,8,.int .i64 k)] (fun l=>[(r,54,bif lst l 7 then C1 else T)]) (by kernel_rfl) (by kernel_rfl) aM (by intro e a7;(rcases List.mem_cons.1 a7 with rfl|a7;· rfl);cases a7) ⟨?_,?_,?_,?_,?_,?_,?_,?_,?_,?_,trivial⟩ ?_
   all_goals clear J aM
   ·intro l g w t i v j
    have J:=i.inv.loc
    try dsimp only at J
    have d9:=j (9,8,.int .i64 k) cMm (show ZM _ (9:Nat) (0:Nat)=true from by decide)
    try dsimp only at d9
    refine qN (d:=38) (x:=.int .i64 k) (L:=[(r,54,bif lst l 7 then C1 else T)]) (by kernel_rfl) cMm t i (by simp only[ze (show (7:Nat)≠0 by decide)]) ?_;clear v j;simp only[fD];simp only[d9];go_wp2
    (try exact⟨rfl,(by first|rfl|(go_num;done)),J⟩)
   ·intro l g w t i v j
    have J:=i.inv.loc
    try dsimp only at J
    refine qN (d:=39) (x:=.slice (some ⟨r,0,none⟩) n n) (L:=[(r,54,bif lst l 7 then C1 else T)]) (by kernel_rfl) cMm t i (by simp only[ze (show (7:Nat)≠1 by decide)]) ?_;clear v j;simp only[fD];go_wp2
    (try exact⟨rfl,(by first|rfl|(go_num;done)),J⟩)
   ·intro l g w t i v j
    have J:=i.inv.loc
    try dsimp only at J
    have d9:=j (9,8,.int .i64 k) cMm (show ZM _ (9:Nat) (2:Nat)=true from by decide)
    try dsimp only at d9
    refine qN (d:=40) (x:=.int .i64 k) (L:=[(r,54,bif lst l 7 then C1 else T)]) (by kernel_rfl) cMm t i (by simp only[ze (show (7:Nat)≠2 by decide)]) ?_;clear v j;simp only[fD];simp only[d9];go_wp2
    (try exact⟨rfl,(by first|rfl|(go_num;done)),J⟩)
   ·intro l g w t i v j
    have J:=i.inv.loc
    try dsimp only at J
    have d1:=i.inv.vals (1,39,.slice (some ⟨r,0,none⟩) n n) cMm (v 1 (by decide))
    try dsimp only at d1
    have d2:=i.inv.vals (2,40,.int .i64 k) cMm (v 2 (by decide))
    try dsimp only at d2
    refine qN (d:=41) (x:=.slice (some ⟨r,k*3,none⟩) (n - k) (n - k)) (L:=[(r,54,bif lst l 7 then C1 else T)]) (by kernel_rfl) cMm t i (by simp only[ze (show (7:Nat)≠3 by decide)]) ?_;clear v j;simp only[fD];simp only[d1,d2]
    (refine Us (ad:=⟨r,0,none⟩) (q:=⟨r,k*3,none⟩) (l:=k) (n:=n) (c:=n) rfl UL rfl rfl (by omega) aO (by rw[zG,Nat.zero_add];rfl) ?_)
    (try exact⟨rfl,(by first|rfl|(go_num;done)),J⟩)
   ·intro l g w t i v j
    have J:=i.inv.loc
    try dsimp only at J
    refine qN (d:=42) (x:=.slice (some ⟨r,0,none⟩) n n) (L:=[(r,54,bif lst l 7 then C1 else T)]) (by kernel_rfl) cMm t i (by simp only[ze (show (7:Nat)≠4 by decide)]) ?_;clear v j;simp only[fD];go_wp2
    (try exact⟨rfl,(by first|rfl|(go_num;done)),J⟩)
   ·intro l g w t i v j
    have J:=i.inv.loc
    try dsimp only at J
    have d9:=j (9,8,.int .i64 k) cMm (show ZM _ (9:Nat) (5:Nat)=true from by decide)
    try dsimp only at d9
    refine qN (d:=43) (x:=.int .i64 k) (L:=[(r,54,bif lst l 7 then C1 else T)]) (by kernel_rfl) cMm t i (by simp only[ze (show (7:Nat)≠5 by decide)]) ?_;clear v j;simp only[fD];simp only[d9];go_wp2
    (try exact⟨rfl,(by first|rfl|(go_num;done)),J⟩)
   ·intro l g w t i v j
    have J:=i.inv.loc
    try dsimp only at J
    have d4:=i.inv.vals (4,42,.slice (some ⟨r,0,none⟩) n n) cMm (v 4 (by decide))
    try dsimp only at d4
    have d5:=i.inv.vals (5,43,.int .i64 k) cMm (v 5 (by decide))
    try dsimp only at d5
    refine qN (d:=44) (x:=.slice (some ⟨r,0,none⟩) k n) (L:=[(r,54,bif lst l 7 then C1 else T)]) (by kernel_rfl) cMm t i (by simp only[ze (show (7:Nat)≠6 by decide)]) ?_;clear v j;simp only[fD];simp only[d4,d5]
    (refine Ut (b:=r) (off:=0) (l:=k) (n:=n) (c:=n) rfl UL rfl rfl be ?_)
    (try exact⟨rfl,(by first|rfl|(go_num;done)),J⟩)
   ·intro l g w t i v j
    have J:=i.inv.loc
    try dsimp only at J
    have d3:=i.inv.vals (3,41,.slice (some ⟨r,k*3,none⟩) (n - k) (n - k)) cMm (v 3 (by decide))
    try dsimp only at d3
    have d6:=i.inv.vals (6,44,.slice (some ⟨r,0,none⟩) k n) cMm (v 6 (by decide))
    try dsimp only at d6
    refine qN (d:=45) (x:=.int .i64 m1) (L:=[(r,54,C1)]) (by kernel_rfl) cMm t i (by simp only[q1 t,cond_true]) ?_;clear v j;simp only[fD];simp only[d3,d6];generalize lst l 7=bi at J;cases bi
    all_goals
     simp only[cond_true,cond_false]at J
     (first|(refine JX (b:=r) (off:=k*3) (n:=n - k) (c:=n - k) (ad:=⟨r,0,none⟩) (m:=k) (cm:=n) (news:=aL) (cs':=C1) J rfl rfl InL.head rfl UL (by rw[ah.out,<- an.out];rfl) (fun o u I=>by rw[zG,Nat.zero_add,J.cell InL.head];exact aZ.out o u I) aJ.out (by rw[ah.out,aW.out];omega) bb.out ?_)|(refine JX (b:=r) (off:=k*3) (n:=n - k) (c:=n - k) (ad:=⟨r,0,none⟩) (m:=k) (cm:=n) (news:=aL) (cs':=C1) J rfl rfl InL.head rfl UL (by rw[ah.out,<- an.out];rfl) (fun o u I=>by rw[zG,Nat.zero_add,J.cell InL.head];exact ba.out o u I) aJ.out (by rw[ah.out,aY.out];omega) bc.out ?_));clear J;intro R J;rw[<- an.out]
     exact⟨rfl,rfl,J⟩
   ·intro l g w t i v j
    have J:=i.inv.loc
    try dsimp only at J
    have d0:=i.inv.vals (0,38,.int .i64 k) cMm (v 0 (by decide))
    try dsimp only at d0
    have d7:=i.inv.vals (7,45,.int .i64 m1) cMm (v 7 (by decide))
    try dsimp only at d7
    refine qN (d:=46) (x:=.int .i64 ((k:Int)+m1)) (L:=[(r,54,bif lst l 7 then C1 else T)]) (by kernel_rfl) cMm t i (by simp only[ze (show (7:Nat)≠8 by decide)]) ?_;clear v j;simp only[fD];simp only[d0,d7];go_wp2
    (try exact⟨rfl,(by first|rfl|(go_num;done)),J⟩)
   ·intro l g w t i v j
    have J:=i.inv.loc
    try dsimp only at J
    have d8:=i.inv.vals (8,46,.int .i64 ((k:Int)+m1)) cMm (v 8 (by decide))
    try dsimp only at d8
    refine qN (d:=8) (x:=.int .i64 ((k:Int)+m1)) (L:=[(r,54,bif lst l 7 then C1 else T)]) (by kernel_rfl) cMm t i (by simp only[ze (show (7:Nat)≠9 by decide)]) ?_;clear v j;simp only[fD];simp only[d8];go_wp2
    (try exact⟨rfl,(by first|rfl|(go_num;done)),J⟩)
   intro g bn l aN J U;simp only[aN 7 (by decide),cond_true]at J;have aq:=U (0,38,.int .i64 k) cMm (show (0:Nat)<10 by decide);have ar:=U (1,39,.slice (some ⟨r,0,none⟩) n n) cMm (show (1:Nat)<10 by decide);have au:=U (2,40,.int .i64 k) cMm (show (2:Nat)<10 by decide);have av:=U (3,41,.slice (some ⟨r,k*3,none⟩) (n - k) (n - k)) cMm (show (3:Nat)<10 by decide);have aw:=U (4,42,.slice (some ⟨r,0,none⟩) n n) cMm (show (4:Nat)<10 by decide);have ax:=U (5,43,.int .i64 k) cMm (show (5:Nat)<10 by decide);have ay:=U (6,44,.slice (some ⟨r,0,none⟩) k n) cMm (show (6:Nat)<10 by decide);have az:=U (7,45,.int .i64 m1) cMm (show (7:Nat)<10 by decide);have a0:=U (8,46,.int .i64 ((k:Int)+m1)) cMm (show (8:Nat)<10 by decide);have a1:=U (9,8,.int .i64 ((k:Int)+m1)) cMm (show (9:Nat)<10 by decide)
   try dsimp only at aq ar au av aw ax ay az a0 a1
   clear U aN;simp only[fD];simp only[aq,ar,au,av,aw,ax,ay,az,a0,a1];clear aq ar au av aw ax ay az a0 a1;rw[aV.out]at J;go_roundw
   case rel=>
    refine⟨_,_,_,_,_,_,_,_,_,_,_,_,_,_,?_,rfl⟩;exact⟨k+m1,by omega,by omega,by go_num,J⟩
   case measure=>simp[intOf];omega
  ·obtain rfl:k=n:=by omega
   clear aO;go_wp2_with (with_reducible first|refine lld J ?_|((first|refine lbx J ?_|refine lal J ?_|refine lbs J ?_);clear J;intro ai R J)|(refine zc J ?_;clear J;intro R J))
   (try simp only[Exit.inBlock,Exit.then]);refine rt1 ?_
   exact⟨r,rfl,J.conv (by simp[QC])⟩
end Go.Proofs.YtplcndmdkabmeaaGreatDoor
