import Derived.Test.YtfpcjhajjejpdaaGreatDoorY33
import Derived.Test.YtfpcjhajjejpdaaGreatDoorY26
import Derived.Deep.AppendLies
import Derived.Deep.RegionLaw
open Go.Lib renaming hid → zh
open List renaming getElem_cons_succ → zE, getElem_cons_zero → zF, getElem_toArray → zD, setIfInBounds_toArray → zA, set_cons_succ → zC, set_cons_zero → zB
namespace Go.Proofs.YtfpcjhajjejpdaaGreatDoor
open Go.RowKit
set_option linter.unusedVariables false
theorem zAG (w:World) (cs:Array Value) (t:TypeId):∀j u,cs.toList[j]?=some u→(w.alloc (.cells cs t)).cell? ((⟨w.heap.size,0,none⟩:Addr).add j)=some u:=by
 intro j u hu;have h:=cell_of_row _ w.heap.size j cs t (0,0) (heap_alloc_new w (.cells cs t));have hu':cs[j]?=some u:=by rw[←Array.getElem?_toList];exact hu
 unfold Addr.add;split
 · rename_i h0;subst h0;rw[h,hu']
 · rw[show(⟨w.heap.size,0+j,none⟩:Addr)=⟨w.heap.size,j,none⟩ from by simp,h,hu']
theorem zHE {w5:World} {bs n cap gg:Nat} {ss:List ByteArray} {t:ByteArray} (hrow:w5.ownsRow bs 9 1 (.slice (some ⟨gg,0,none⟩) (n+1) cap) (n+1) (ss.map Value.string++[.string t])) (hn:n=ss.length):Own.SubO w5 bs (.slice (some ⟨gg,0,none⟩) (n+1) cap) (ss++[t]):=by
 subst hn;unfold Own.SubO;rw[List.length_append,List.map_append];exact hrow
theorem zFr {w5:World} {bs n cap gg:Nat} {fs:List CondD} {x:CondD} (hrow:w5.ownsRow bs 44 3 (.slice (some ⟨gg,0,none⟩) (n+1) cap) (n+1) (zAl fs++[.string x.col,.int .i64 x.op,.string x.val])) (hn:n=fs.length):CondO w5 bs (.slice (some ⟨gg,0,none⟩) (n+1) cap) (fs++[x]):=by
 subst hn;unfold CondO;rw[List.length_append,zGF];exact hrow
theorem zDE {fs:List CondD} {a b:ByteArray} {z:Int} (h:∀x∈fs,x.col.size≤16∧x.val.size≤16) (ha:a.size≤16) (hb:b.size≤16):∀x∈fs++[⟨a,z,b⟩],x.col.size≤16∧x.val.size≤16:=fun x hx=>by
 rcases List.mem_append.1 hx with h1 | h1
 · exact h x h1
 · rw[List.mem_singleton.1 h1];exact⟨ha,hb⟩
theorem zGd {ss:List ByteArray} {t:ByteArray} {m:Nat} (h:∀s∈ss,s.size≤m) (ht:t.size≤m):∀s∈ss++[t],s.size≤m:=fun s hs=>by
 rcases List.mem_append.1 hs with h1 | h1
 · exact h s h1
 · rw[List.mem_singleton.1 h1];exact ht
theorem zQ0 {X w:World} {p K h:Nat} {c0 c1 c2 c3 c4 c5 b0 b1 b2 b3:Value} {d:QueryD} (s:QSt p K h w c0 c1 c2 c3 c4 c5 d b0 b1 b2 b3 X) (hp:p<w.heap.size) (hw:w.heap.size≤h) (x0 x1 x2 x3 x4 x5:Value) :
 QryO ((((((X.setCell ⟨h+1,0,none⟩ x0).setCell ⟨h+1,1,none⟩ x1).setCell ⟨h+1,2,none⟩ x2).setCell ⟨h+1,3,none⟩ x3).setCell ⟨h+1,4,none⟩ x4).setCell ⟨h+1,5,none⟩ x5) h c0 c1 c2 c3 c4 c5 d∧Drawn p K w ((((((X.setCell ⟨h+1,0,none⟩ x0).setCell ⟨h+1,1,none⟩ x1).setCell ⟨h+1,2,none⟩ x2).setCell ⟨h+1,3,none⟩ x3).setCell ⟨h+1,4,none⟩ x4).setCell ⟨h+1,5,none⟩ x5):=by
 have hd:∀{Y:World},Drawn p K w Y→∀i u,Drawn p K w (Y.setCell ⟨h+1,i,none⟩ u):=fun hY i u=>hY.grown (Own.grown_set _ _ i u) (fun g e=>by cases e;omega) hp;have r0:=s.res;have r1:=r0.set_ 0 x0;have r2:=r1.set_ 1 x1;have r3:=r2.set_ 2 x2;have r4:=r3.set_ 3 x3;have r5:=r4.set_ 4 x4;exact⟨(((((s.own.setBlk r0 (by decide) (by decide)).setBlk r1 (by decide) (by decide)).setBlk r2 (by decide) (by decide)).setBlk r3 (by decide) (by decide)).setBlk r4 (by decide) (by decide)).setBlk r5 (by decide) (by decide),hd (hd (hd (hd (hd (hd s.draw 0 x0) 1 x1) 2 x2) 3 x3) 4 x4) 5 x5⟩
theorem zCG {w w':World} {p K b n:Nat} {zs:List Int} (h:Ints w w.heap.size (some ⟨b,0,none⟩) n zs) (hd:Drawn p K w w') (hb:b≠p):Ints w' w'.heap.size (some ⟨b,0,none⟩) n zs:=by
 refine⟨h.1,fun hn=>?_⟩;obtain⟨b',o,e,hb',hc⟩:=h.2 hn;cases e;exact⟨b,0,rfl,Nat.lt_of_lt_of_le hb' hd.chg.size,fun j hj=>(World.cell?_of_block (w:=w) (hd.chg.block b hb' hb)).trans (hc j hj)⟩
set_option maxRecDepth 100000 in
set_option maxHeartbeats 40000000 in
theorem zIb (p K:Nat) (b0 b1 b2 b3:Value) (b:TableD) (w:World) (h:SrcR w p K) (hb:TableR w w.heap.size b0 b1 b2 b3 b) (hnm:b.name.size≤16) (hc6:b.cols.length≤6) (hca:∀s∈b.cols,s.size≤16) (hK:K≤137438953472) :
 Calls Tryz.prog 98 #[.pointer (some ⟨p,0,none⟩),.agg #[b0,b1,b2,b3]] w (zKP p (K+60) 6 2 w):=by
 obtain⟨i0,hi,hz0,hz1,hz2⟩:=info_parts zAO;obtain⟨j0,hj,hy0,hy1,hy2⟩:=info_parts zGw;have hpw:=h.lt;obtain⟨rfl,rfl,⟨A2,n2,p2,rfl,s2,k2⟩,⟨A3,n3,p3,rfl,s3,k3⟩⟩:=hb;have hn2:n2≤6:=by rw[←s2.1];exact hc6
 have HCL:Hid (b.cols.length=n2):=s2.1;have HCX:Hid (∀X K',Drawn p K' w X→Strs X X.heap.size A2 n2 b.cols):=fun X K' hd=>h.strs s2 hd;have HCA:=zh hca;have HNM:=zh hnm;clear s2 s3 hc6 hca hnm;generalize b.name=nm at *;generalize b.glob=gl at *;generalize b.cols=cs at *;obtain⟨WB,hWB⟩:∃WB,WB=((w.alloc (.cells #[.string nm,.string gl,.slice A2 n2 p2,.slice A3 n3 p3] 29)).alloc (.cells #[.string ⟨#[]⟩,.slice none 0 0,.slice none 0 0,.string ⟨#[]⟩,.bool false,.int .i64 0] 32)).alloc (.cells #[.string nm,.slice none 0 0,.slice none 0 0,.string ⟨#[]⟩,.bool false,.int .i64 0] 32):=⟨_,rfl⟩;have HBB:Hid (Below w.heap.size w WB):=by subst hWB;exact yG w _ _ _
 have HQ0:Hid (Blk WB (w.heap.size+1+1) 32 #[.string nm,.slice none 0 0,.slice none 0 0,.string ⟨#[]⟩,.bool false,.int .i64 0]):=by subst hWB;exact zG0 _ _ _ _
 have HS0:Hid (QSt p K w.heap.size w (.string nm) (.slice none 0 0) (.slice none 0 0) (.string ⟨#[]⟩) (.bool false) (.int .i64 0) ⟨nm,[],[],⟨#[]⟩,false,0⟩ (.string nm) (.string gl) (.slice A2 n2 p2) (.slice A3 n3 p3) WB) :=
  ⟨⟨rfl,Own.sub_nil _ _,CondO.nil _ _,rfl,rfl,rfl⟩,by subst hWB;exact zK0 _ _ _ _,by subst hWB;exact vG _ _ _ _,(Drawn.refl h).later HBB.out⟩
 clear h HBB;go_enter Tryz.func98,Tryz.ntmps98;go_wp2_with fail;rw[←hWB];clear hWB;go_loopw [6] (fun iv wr=>∃(k:Nat) (v:Value) (ss:List ByteArray),iv=.int .i64 k∧k≤n2∧Hid (Blk wr (w.heap.size+1+1) 32 #[.string nm,v,.slice none 0 0,.string ⟨#[]⟩,.bool false,.int .i64 0])∧Hid (QSt p (K+2*k) w.heap.size w (.string nm) v (.slice none 0 0) (.string ⟨#[]⟩) (.bool false) (.int .i64 0) ⟨nm,ss,[],⟨#[]⟩,false,0⟩ (.string nm) (.string gl) (.slice A2 n2 p2) (.slice A3 n3 p3) wr)∧Hid (ss.length≤k)∧Hid (∀s∈ss,s.size≤16)) (fun iv _=>n2-(intOf iv).toNat);case atStart=>exact⟨0,_,[],rfl,Nat.zero_le _,HQ0.out,HS0.out,Nat.le_refl _,fun s hs=>by cases hs⟩
 case round =>
  obtain⟨k,v,ss,rfl,hk,HQ,HS,HL,HZ⟩:=hrel;clear HQ0 HS0;have t2:=HS.out.tab.cell 2;have tz:=HS.out.tab.lt;have q1:=HQ.out.cell 1;have qf:=HQ.out.frozen 1;have qz:=HQ.out.lt;have hww:=HS.out.draw.chg.size;simp at t2 q1;by_cases hlt:k<n2
  · have HK1:=zh (wU p (K+2*k) 3 wr HS.out.draw.src (by omega) (by omega));have hki:(k:Int)<(n2:Int):=by omega
    go_wp2_with fail;refine HK1.out.mono ?_;rintro e w3 ⟨bb,rfl,hd3⟩;have HS3:=zh (HS.out.drawn hd3 hpw);have HQ3:=zh (Blk.drawn HQ.out hd3 (by omega));clear hd3 HK1 t2 tz q1 qf qz
    cases bb with
    | false =>
      go_wp2_with fail;go_roundw;case rel=>exact⟨k+1,v,ss,by go_num,by omega,HQ3.out,HS3.out.mono (by omega),Nat.le_trans HL.out (Nat.le_succ _),HZ.out⟩
      case measure=>simp[intOf];omega
    | true =>
      obtain⟨bb,o,rfl,hbB,hcn⟩:=(HCX.out w3 _ HS3.out.draw).2 (by omega);have ck:=hcn k hlt;have HTS:Hid ((cs.getD k ByteArray.empty).size≤16):=HCA.out _ (Own.mem_of_getD cs k _ (by rw[HCL.out];exact hlt));clear hcn;generalize cs.getD k ByteArray.empty=t at *;generalize hm:ss.length=m at *;have HM:=zh hm;clear hm;have hm6:m≤6:=Nat.le_trans HL.out (by omega);have HRA:Hid ((w3.alloc (.cells #[.string t] 9)).ownsRow w.heap.size 9 1 v m (ss.map Value.string)):=by have h:=(HS3.out.later (Below.new w3 (.cells #[.string t] 9))).own.cols;unfold Own.SubO at h;rw[show(QueryD.cols ⟨nm,ss,[],⟨#[]⟩,false,0⟩)=ss from rfl,HM.out]at h;exact h
      have t2:=HS3.out.tab.cell 2;have tz:=HS3.out.tab.lt;have q1:=HQ3.out.cell 1;have qf:=HQ3.out.frozen 1;have qz:=HQ3.out.lt;have hw3:=HS3.out.draw.chg.size;have r1:=(HQ3.out.alloc (.cells #[.string t] 9)).cell 1;have rt2:=(HS3.out.tab.alloc (.cells #[.string t] 9)).cell 2;have rck:(w3.alloc (.cells #[.string t] 9)).cell? ⟨bb,o+k,none⟩=some (.string t):=(World.cell?_alloc_lt _ _ _ hbB).trans ck;simp at t2 q1 r1 rt2;go_wp2_with fail
      go_region_law (first
       | (refine step_append_lies _ (by rfl) _ _ _ (by rfl) w.heap.size 9 i0 _ 1 16 Tryz.underlying27 hi hz0 hz1 hz2 rfl (by omega) v m (ss.map Value.string) (by rfl) (by exact HRA.out) ⟨w3.heap.size,0,none⟩ 1 1 [.string t] (by rfl) (by rfl) (by exact zAG w3 #[.string t] _) (by simp[Value.oneCell']) (by omega) (by unfold maxLen;omega) (by omega) (by simp;omega) (w3.heap.size+1) (by simp) ?_
          intro gg cap' w5 hown5 hgrow' hat hlt2;have hgrow5:(w3.alloc (.cells #[.string t] 9)).grownBy w5 v.ownBlock:=⟨hgrow'.os,hgrow'.tape,hgrow'.output,hgrow'.size,hgrow'.block⟩;have HQY:=zh ((HQ3.out.alloc (.cells #[.string t] 9)).grown hgrow5 (fun e=>Own.own_blk_ne HRA.out (HQ3.out.alloc (.cells #[.string t] 9)) (by decide) e.symm));have HSY:=zh ((HS3.out.later (Below.new w3 (.cells #[.string t] 9))).cols_ (t:=t) (zHE hown5 (by rw[show(QueryD.cols ⟨nm,ss,[],⟨#[]⟩,false,0⟩)=ss from rfl,HM.out])) hgrow5 hpw (Nat.le_refl _));have y1:=HQY.out.cell 1;have yz:=HQY.out.lt;have yf:=HQY.out.frozen 1;simp at y1
          clear hown5 hgrow5 hgrow'))
      all_goals
       clear t2 q1 qf r1 rt2 rck ck;go_wp2_with fail;go_roundw;case rel=>exact⟨k+1,_,ss++[t],by go_num,by omega,HQY.out.set_ 1 _,(HSY.out.side HQY.out (by omega) hpw (Nat.le_refl _) 1 _).mono (by omega),by unfold Hid;have:=HL.out;rw[List.length_append,HM.out];simp;omega,zGd HZ.out HTS.out⟩
       case measure=>simp[intOf];omega
  · obtain rfl:n2=k:=by omega
    have hkn:¬(n2:Int)<(n2:Int):=by omega
    have HK2:=zh (xG p (K+2*n2) 3 wr HS.out.draw.src (by omega) (by omega));have HLK:Hid (ss.length≤6):=Nat.le_trans HL.out hn2;clear HL hlt hk;go_wp2_with fail;refine HK2.out.mono ?_;rintro e w2 ⟨x0,rfl,hx0,hd2⟩;have HS2:=zh (HS.out.drawn hd2 hpw);have HQ2:=zh (Blk.drawn HQ.out hd2 (by omega));have hx2:x0≤2:=by omega
    clear hd2 HK2 HQ HS t2 tz q1 qf qz hww hx0 hkn;go_wp2_with fail;go_loopw [8] (fun kv wx=>∃(jj:Nat) (u:Value) (fs:List CondD),kv=.int .i64 jj∧jj+fs.length≤2∧Hid (Blk wx (w.heap.size+1+1) 32 #[.string nm,v,u,.string ⟨#[]⟩,.bool false,.int .i64 0])∧Hid (QSt p (K+2*n2+2+6*fs.length) w.heap.size w (.string nm) v u (.string ⟨#[]⟩) (.bool false) (.int .i64 0) ⟨nm,ss,fs,⟨#[]⟩,false,0⟩ (.string nm) (.string gl) (.slice A2 n2 p2) (.slice A3 n3 p3) wx)∧Hid (∀x∈fs,x.col.size≤16∧x.val.size≤16)) (fun kv _=>(intOf kv).toNat);case atStart=>exact⟨x0,_,[],rfl,by simpa using hx2,HQ2.out,HS2.out.mono (by simp),fun x hx=>by cases hx⟩
    case round =>
     obtain⟨jj,u,fs,rfl,hjm,HQ,HS,HFZ⟩:=hrel;clear HQ2 HS2 hx2;obtain⟨wx,hwx⟩:∃wx,wx=wr:=⟨_,rfl⟩;subst hwx;generalize hm:fs.length=m at *;have HM:=zh hm;clear hm;generalize hKK:K+2*n2+2+6*m=KK at *;have HKK:=zh hKK;have hKb:KK≤137438953572:=by omega
     clear hKK;have t2:=HS.out.tab.cell 2;have tz:=HS.out.tab.lt;have q2:=HQ.out.cell 2;have qf:=HQ.out.frozen 2;have qz:=HQ.out.lt;have hww:=HS.out.draw.chg.size;simp at t2 q2;have hor:(0<jj∧0<n2)∨jj=0∨(0<jj∧n2=0):=by omega
     rcases hor with ⟨hj0,hn0⟩ | hout
     · have HSQ:=zh HS.out;obtain⟨bb,o,e2,hbB,_⟩:=(HCX.out wx _ HS.out.draw).2 hn0;subst e2;obtain⟨ct,hct⟩:∃ct:Nat→ByteArray,ct=fun j=>cs.getD j ByteArray.empty:=⟨_,rfl⟩;have HCT:Hid (∀j,j<n2→(ct j).size≤16):=fun j hj=>by subst hct;exact HCA.out _ (Own.mem_of_getD cs j _ (by rw[HCL.out];exact hj))
       have HSX:Hid (∀X K',Blk X (w.heap.size+1+1) 32 #[.string nm,v,u,.string ⟨#[]⟩,.bool false,.int .i64 0]→QSt p K' w.heap.size w (.string nm) v u (.string ⟨#[]⟩) (.bool false) (.int .i64 0) ⟨nm,ss,fs,⟨#[]⟩,false,0⟩ (.string nm) (.string gl) (.slice (some ⟨bb,o,none⟩) n2 p2) (.slice A3 n3 p3) X→(X.cell? ⟨w.heap.size+1+1,2,none⟩=some u∧X.cell? ⟨w.heap.size,2,none⟩=some (.slice (some ⟨bb,o,none⟩) n2 p2)∧∀j,j<n2→X.cell? ⟨bb,o+j,none⟩=some (.string (ct j)))):=fun X K' h1 h2=>⟨(h1.cell 2).trans rfl,(h2.tab.cell 2).trans rfl,fun j hj=>by
        obtain⟨b',o',e,_,hc⟩:=(HCX.out X _ h2.draw).2 hn0;cases e;subst hct
        exact hc j hj⟩
       have HSZ:Hid (∀X K',Drawn p K' w X→∀j,j<n2→X.cell? ⟨bb,o+j,none⟩=some (.string (ct j))):=fun X K' h2 j hj=>by obtain⟨b',o',e,_,hc⟩:=(HCX.out X _ h2).2 hn0;cases e;subst hct;exact hc j hj
       have HQD:Hid (Blk wx.drew (w.heap.size+1+1) 32 #[.string nm,v,u,.string ⟨#[]⟩,.bool false,.int .i64 0]):=HQ.out;have HSD:=zh (HS.out.later (Below.refl _ wx).drew);clear hbB hct;go_wp2_with fail;refine zE0 (S:=fun X=>X.cell? ⟨w.heap.size+1+1,2,none⟩=some u∧X.cell? ⟨w.heap.size,2,none⟩=some (.slice (some ⟨bb,o,none⟩) n2 p2)∧∀j,j<n2→X.cell? ⟨bb,o+j,none⟩=some (.string (ct j))) 19 (by kernel_rfl) ?hS0 (fun hHeld=>?rg0);case hS0=>exact HSX.out _ _ HQD.out HSD.out
       clear t2 q2 qf tz qz;apply shr (fun (X:World) (ib sb y:Nat) (z:Int) (x:ByteArray)=>Hid (Blk X (w.heap.size+1+1) 32 #[.string nm,v,u,.string ⟨#[]⟩,.bool false,.int .i64 0])∧Hid (QSt p (KK+2+2+2) w.heap.size w (.string nm) v u (.string ⟨#[]⟩) (.bool false) (.int .i64 0) ⟨nm,ss,fs,⟨#[]⟩,false,0⟩ (.string nm) (.string gl) (.slice (some ⟨bb,o,none⟩) n2 p2) (.slice A3 n3 p3) X)∧Hid ((ct y).size≤16)∧Hid (x.size≤16))
       case m =>
        intro HALL;refine wt 0 ?a1 [] ?b2 ?c3;case b2=>intro w hSw;(try dsimp only at hSw);go_simp;(try with_reducible rfl)
        try simp only[Act.put,zA,zB,zC,zD,zF]
        refine wt 1 ?a4 [] ?b5 ?c6;case b5=>intro w hSw;(try dsimp only at hSw);go_simp;(try with_reducible rfl)
        try simp only[Act.put,zA,zB,zC,zD,zE,zF]
        refine wt 2 ?a7 [] ?b8 ?c9;case b8=>intro w hSw;(try dsimp only at hSw);go_simp;(try with_reducible rfl)
        try simp only[Act.put,zA,zB,zC,zD,zE,zF]
        refine wt 3 ?a10 [] ?b11 ?c12;case b11=>intro w hSw;(try dsimp only at hSw);go_simp;(try with_reducible rfl)
        try simp only[Act.put,zA,zB,zC,zD,zE,zF]
        refine wt 4 ?a13 [] ?b14 ?c15;case b14=>intro w hSw;(try dsimp only at hSw);go_simp;(try with_reducible rfl)
        try simp only[Act.put,zA,zB,zC,zD,zE,zF]
        refine wt 5 ?a16 [] ?b17 ?c18;case b17=>intro w hSw;(try dsimp only at hSw);go_simp;(try with_reducible rfl)
        try simp only[Act.put,zA,zB,zC,zD,zE,zF]
        refine wt 9 ?a19 [] ?b20 ?c21;case b20=>intro w hSw;(try dsimp only at hSw);go_simp;(try with_reducible rfl)
        try simp only[Act.put,zA,zB,zC,zD,zE,zF]
        refine wt 12 ?a22 [] ?b23 ?c24;case b23=>intro w hSw;(try dsimp only at hSw);go_simp;(try with_reducible rfl)
        try simp only[Act.put,zA,zB,zC,zD,zE,zF]
        refine yA (rs:=[6,10,13]) (by kernel_rfl) (by simp) ?_;refine AllReadyE.cons rfl (fun K hK=>?st25) (AllReadyE.cons rfl (fun K hK=>?st26) (AllReadyE.cons rfl (fun K hK=>?st27) AllReadyE.nil))
        case st25 =>
         go_simp;refine(xG p (KK) n2 wx.drew HSD.out.draw.src (by omega) (by omega)).mono ?_;rintro e X1 ⟨y,rfl,hy,hd⟩;have HS1:=zh (HSD.out.drawn hd hpw);have HQ1:=zh (Blk.drawn HQD.out hd (by omega));have hyn:y<n2:=by omega
         have hyi:(y:Int)<(n2:Int):=by omega
         have HTS:Hid ((ct y).size≤16):=HCT.out y hyn;clear hd hy;try go_wp2_with fail
         refine hK.out _ _ (fun _=>?ke28) (fun hHeld'=>?rs29);case ke28=>exact HSX.out _ _ HQ1.out HS1.out
         have hHeld:=hHeld' (by decide);clear hHeld';clear hK K;try simp only[Act.put,zA,zB,zC,zD,zE,zF]
         refine wt 7 ?a30 [] ?b31 ?c32;case b31=>intro w hSw;(try dsimp only at hSw);go_simp;(try with_reducible rfl)
         try simp only[Act.put,zA,zB,zC,zD,zE,zF]
         refine wt 8 ?a33 [] ?b34 ?c35;case b34=>intro w hSw;(try dsimp only at hSw);go_simp;(try with_reducible rfl)
         try simp only[Act.put,zA,zB,zC,zD,zE,zF]
         refine yA (rs:=[10,13]) (by kernel_rfl) (by simp) ?_;refine AllReadyE.cons rfl (fun K hK=>?st36) (AllReadyE.cons rfl (fun K hK=>?st37) AllReadyE.nil)
         case st36 =>
          go_simp;obtain⟨X2,hX2⟩:∃X,X=X1.alloc (.cells #[.int .i64 1,.int .i64 1,.int .i64 1,.int .i64 2,.int .i64 3,.int .i64 4] 2):=⟨_,rfl⟩;rw[←hX2];have HB2:Hid (Below X1.heap.size X1 X2):=by subst hX2;exact Below.new _ _
          have HS2:=zh (HS1.out.later HB2.out);have HQ2:=zh (HQ1.out.later HB2.out HQ1.out.lt);have HI2:Hid (Ints X2 X2.heap.size (some ⟨X1.heap.size,0,none⟩) 6 [1,1,1,2,3,4]):=by subst hX2;exact zBe X1 2 [1,1,1,2,3,4] _ rfl
          have hp2:X1.heap.size≠p:=by have:=HS1.out.draw.chg.size;omega
          clear hX2;generalize X1.heap.size=ib at HI2 hp2 ⊢;refine hK.out _ _ (fun _=>?ke38) (fun hHeld'=>?rs39);case ke38=>exact HSX.out _ _ HQ2.out HS2.out
          have hHeld:=hHeld' (by decide);clear hHeld';clear hK K;try simp only[Act.put,zA,zB,zC,zD,zE,zF]
          refine yA (rs:=[11,13]) (by kernel_rfl) (by simp) ?_;refine AllReadyE.cons rfl (fun K hK=>?st40) (AllReadyE.cons rfl (fun K hK=>?st41) AllReadyE.nil)
          case st40 =>
           go_simp;refine(uS p (KK+2) (ib) 6 6 [1,1,1,2,3,4] X2 HS2.out.draw.src (by omega) HI2.out hp2 (by omega) (by omega)).mono ?_;rintro e X3 ⟨z,hz,rfl,hd⟩;have HS3:=zh (HS2.out.drawn hd hpw);have HQ3:=zh (Blk.drawn HQ2.out hd (by omega));clear hd;try go_wp2_with fail
           refine hK.out _ _ (fun _=>?ke42) (fun hHeld'=>?rs43);case ke42=>exact HSX.out _ _ HQ3.out HS3.out
           have hHeld:=hHeld' (by decide);clear hHeld';clear hK K;try simp only[Act.put,zA,zB,zC,zD,zE,zF]
           refine yA (rs:=[13]) (by kernel_rfl) (by simp) ?_;refine AllReadyE.cons rfl (fun K hK=>?st44) AllReadyE.nil;go_simp;obtain⟨X4,hX4⟩:∃X,X=X3.alloc (.cells #[.string ⟨#[97,110,110]⟩,.string ⟨#[98,111,98]⟩,.string ⟨#[51]⟩,.string ⟨#[49,50]⟩,.string ⟨#[49]⟩,.string ⟨#[50]⟩,.string ⟨#[97]⟩,.string ⟨#[]⟩] 9):=⟨_,rfl⟩;rw[←hX4];have HB4:Hid (Below X3.heap.size X3 X4):=by subst hX4;exact Below.new _ _
           have HS4:=zh (HS3.out.later HB4.out);have HQ4:=zh (HQ3.out.later HB4.out HQ3.out.lt);have HL4:Hid (Strs X4 X4.heap.size (some ⟨X3.heap.size,0,none⟩) 8 [⟨#[97,110,110]⟩,⟨#[98,111,98]⟩,⟨#[51]⟩,⟨#[49,50]⟩,⟨#[49]⟩,⟨#[50]⟩,⟨#[97]⟩,⟨#[]⟩]):=by subst hX4;exact vH X3 9 [⟨#[97,110,110]⟩,⟨#[98,111,98]⟩,⟨#[51]⟩,⟨#[49,50]⟩,⟨#[49]⟩,⟨#[50]⟩,⟨#[97]⟩,⟨#[]⟩] _ rfl
           clear hX4;generalize X3.heap.size=sb at HL4 ⊢;refine hK.out _ _ (fun _=>?ke45) (fun hHeld'=>?rs46);case ke45=>exact HSX.out _ _ HQ4.out HS4.out
           have hHeld:=hHeld' (by decide);clear hHeld';clear hK K;try simp only[Act.put,zA,zB,zC,zD,zE,zF]
           refine yA (rs:=[14]) (by kernel_rfl) (by simp) ?_;refine AllReadyE.cons rfl (fun K hK=>?st47) AllReadyE.nil;go_simp;refine(zH0 p (KK+2+2) (some ⟨sb,0,none⟩) 8 8 [⟨#[97,110,110]⟩,⟨#[98,111,98]⟩,⟨#[51]⟩,⟨#[49,50]⟩,⟨#[49]⟩,⟨#[50]⟩,⟨#[97]⟩,⟨#[]⟩] X4 HS4.out.draw.src (by omega) HL4.out (by omega) (by omega)).mono ?_;rintro e X5 ⟨x,hx,rfl,hd⟩;have HS5:=zh (HS4.out.drawn hd hpw);have HQ5:=zh (Blk.drawn HQ4.out hd (by omega));have HXS:Hid (x.size≤16):=(by decide:∀s∈([⟨#[97,110,110]⟩,⟨#[98,111,98]⟩,⟨#[51]⟩,⟨#[49,50]⟩,⟨#[49]⟩,⟨#[50]⟩,⟨#[97]⟩,⟨#[]⟩]:List ByteArray),s.size≤16) x hx;clear hd hx;try go_wp2_with fail
           refine hK.out _ _ (fun _=>?ke48) (fun hHeld'=>?rs49);case ke48=>exact HSX.out _ _ HQ5.out HS5.out
           have hHeld:=hHeld' (by decide);clear hHeld';clear hK K;try simp only[Act.put,zA,zB,zC,zD,zE,zF]
           exact HALL X5 ib sb y z x ⟨HQ5,HS5,HTS,HXS⟩ hHeld
          case st41 =>
           go_simp;obtain⟨X6,hX6⟩:∃X,X=X2.alloc (.cells #[.string ⟨#[97,110,110]⟩,.string ⟨#[98,111,98]⟩,.string ⟨#[51]⟩,.string ⟨#[49,50]⟩,.string ⟨#[49]⟩,.string ⟨#[50]⟩,.string ⟨#[97]⟩,.string ⟨#[]⟩] 9):=⟨_,rfl⟩;rw[←hX6];have HB6:Hid (Below X2.heap.size X2 X6):=by subst hX6;exact Below.new _ _
           have HS6:=zh (HS2.out.later HB6.out);have HQ6:=zh (HQ2.out.later HB6.out HQ2.out.lt);have HI6:=zh (HI2.out.later HB6.out);have HL6:Hid (Strs X6 X6.heap.size (some ⟨X2.heap.size,0,none⟩) 8 [⟨#[97,110,110]⟩,⟨#[98,111,98]⟩,⟨#[51]⟩,⟨#[49,50]⟩,⟨#[49]⟩,⟨#[50]⟩,⟨#[97]⟩,⟨#[]⟩]):=by subst hX6;exact vH X2 9 [⟨#[97,110,110]⟩,⟨#[98,111,98]⟩,⟨#[51]⟩,⟨#[49,50]⟩,⟨#[49]⟩,⟨#[50]⟩,⟨#[97]⟩,⟨#[]⟩] _ rfl
           clear hX6;generalize X2.heap.size=sb at HL6 ⊢;refine hK.out _ _ (fun _=>?ke50) (fun hHeld'=>?rs51);case ke50=>exact HSX.out _ _ HQ6.out HS6.out
           have hHeld:=hHeld' (by decide);clear hHeld';clear hK K;try simp only[Act.put,zA,zB,zC,zD,zE,zF]
           refine yA (rs:=[11]) (by kernel_rfl) (by simp) ?_;refine AllReadyE.cons rfl (fun K hK=>?st52) AllReadyE.nil;go_simp;refine(uS p (KK+2) (ib) 6 6 [1,1,1,2,3,4] X6 HS6.out.draw.src (by omega) HI6.out hp2 (by omega) (by omega)).mono ?_;rintro e X7 ⟨z,hz,rfl,hd⟩;have HS7:=zh (HS6.out.drawn hd hpw);have HQ7:=zh (Blk.drawn HQ6.out hd (by omega));have HL7:=zh (HS6.out.draw.src.strs HL6.out hd);clear hd;try go_wp2_with fail
           refine hK.out _ _ (fun _=>?ke53) (fun hHeld'=>?rs54);case ke53=>exact HSX.out _ _ HQ7.out HS7.out
           have hHeld:=hHeld' (by decide);clear hHeld';clear hK K;try simp only[Act.put,zA,zB,zC,zD,zE,zF]
           refine yA (rs:=[14]) (by kernel_rfl) (by simp) ?_;refine AllReadyE.cons rfl (fun K hK=>?st55) AllReadyE.nil;go_simp;refine(zH0 p (KK+2+2) (some ⟨sb,0,none⟩) 8 8 [⟨#[97,110,110]⟩,⟨#[98,111,98]⟩,⟨#[51]⟩,⟨#[49,50]⟩,⟨#[49]⟩,⟨#[50]⟩,⟨#[97]⟩,⟨#[]⟩] X7 HS7.out.draw.src (by omega) HL7.out (by omega) (by omega)).mono ?_;rintro e X8 ⟨x,hx,rfl,hd⟩;have HS8:=zh (HS7.out.drawn hd hpw);have HQ8:=zh (Blk.drawn HQ7.out hd (by omega));have HXS:Hid (x.size≤16):=(by decide:∀s∈([⟨#[97,110,110]⟩,⟨#[98,111,98]⟩,⟨#[51]⟩,⟨#[49,50]⟩,⟨#[49]⟩,⟨#[50]⟩,⟨#[97]⟩,⟨#[]⟩]:List ByteArray),s.size≤16) x hx;clear hd hx;try go_wp2_with fail
           refine hK.out _ _ (fun _=>?ke56) (fun hHeld'=>?rs57);case ke56=>exact HSX.out _ _ HQ8.out HS8.out
           have hHeld:=hHeld' (by decide);clear hHeld';clear hK K;try simp only[Act.put,zA,zB,zC,zD,zE,zF]
           exact HALL X8 ib sb y z x ⟨HQ8,HS8,HTS,HXS⟩ hHeld
         case st37 =>
          go_simp;obtain⟨X9,hX9⟩:∃X,X=X1.alloc (.cells #[.string ⟨#[97,110,110]⟩,.string ⟨#[98,111,98]⟩,.string ⟨#[51]⟩,.string ⟨#[49,50]⟩,.string ⟨#[49]⟩,.string ⟨#[50]⟩,.string ⟨#[97]⟩,.string ⟨#[]⟩] 9):=⟨_,rfl⟩;rw[←hX9];have HB9:Hid (Below X1.heap.size X1 X9):=by subst hX9;exact Below.new _ _
          have HS9:=zh (HS1.out.later HB9.out);have HQ9:=zh (HQ1.out.later HB9.out HQ1.out.lt);have HL9:Hid (Strs X9 X9.heap.size (some ⟨X1.heap.size,0,none⟩) 8 [⟨#[97,110,110]⟩,⟨#[98,111,98]⟩,⟨#[51]⟩,⟨#[49,50]⟩,⟨#[49]⟩,⟨#[50]⟩,⟨#[97]⟩,⟨#[]⟩]):=by subst hX9;exact vH X1 9 [⟨#[97,110,110]⟩,⟨#[98,111,98]⟩,⟨#[51]⟩,⟨#[49,50]⟩,⟨#[49]⟩,⟨#[50]⟩,⟨#[97]⟩,⟨#[]⟩] _ rfl
          clear hX9;generalize X1.heap.size=sb at HL9 ⊢;refine hK.out _ _ (fun _=>?ke58) (fun hHeld'=>?rs59);case ke58=>exact HSX.out _ _ HQ9.out HS9.out
          have hHeld:=hHeld' (by decide);clear hHeld';clear hK K;try simp only[Act.put,zA,zB,zC,zD,zE,zF]
          refine yA (rs:=[10]) (by kernel_rfl) (by simp) ?_;refine AllReadyE.cons rfl (fun K hK=>?st60) AllReadyE.nil;go_simp;obtain⟨X10,hX10⟩:∃X,X=X9.alloc (.cells #[.int .i64 1,.int .i64 1,.int .i64 1,.int .i64 2,.int .i64 3,.int .i64 4] 2):=⟨_,rfl⟩;rw[←hX10];have HB10:Hid (Below X9.heap.size X9 X10):=by subst hX10;exact Below.new _ _
          have HS10:=zh (HS9.out.later HB10.out);have HQ10:=zh (HQ9.out.later HB10.out HQ9.out.lt);have HL10:=zh (HL9.out.later HB10.out);have HI10:Hid (Ints X10 X10.heap.size (some ⟨X9.heap.size,0,none⟩) 6 [1,1,1,2,3,4]):=by subst hX10;exact zBe X9 2 [1,1,1,2,3,4] _ rfl
          have hp10:X9.heap.size≠p:=by have:=HS9.out.draw.chg.size;omega
          clear hX10;generalize X9.heap.size=ib at HI10 hp10 ⊢;refine hK.out _ _ (fun _=>?ke61) (fun hHeld'=>?rs62);case ke61=>exact HSX.out _ _ HQ10.out HS10.out
          have hHeld:=hHeld' (by decide);clear hHeld';clear hK K;try simp only[Act.put,zA,zB,zC,zD,zE,zF]
          refine yA (rs:=[11]) (by kernel_rfl) (by simp) ?_;refine AllReadyE.cons rfl (fun K hK=>?st63) AllReadyE.nil;go_simp;refine(uS p (KK+2) (ib) 6 6 [1,1,1,2,3,4] X10 HS10.out.draw.src (by omega) HI10.out hp10 (by omega) (by omega)).mono ?_;rintro e X11 ⟨z,hz,rfl,hd⟩;have HS11:=zh (HS10.out.drawn hd hpw);have HQ11:=zh (Blk.drawn HQ10.out hd (by omega));have HL11:=zh (HS10.out.draw.src.strs HL10.out hd);clear hd;try go_wp2_with fail
          refine hK.out _ _ (fun _=>?ke64) (fun hHeld'=>?rs65);case ke64=>exact HSX.out _ _ HQ11.out HS11.out
          have hHeld:=hHeld' (by decide);clear hHeld';clear hK K;try simp only[Act.put,zA,zB,zC,zD,zE,zF]
          refine yA (rs:=[14]) (by kernel_rfl) (by simp) ?_;refine AllReadyE.cons rfl (fun K hK=>?st66) AllReadyE.nil;go_simp;refine(zH0 p (KK+2+2) (some ⟨sb,0,none⟩) 8 8 [⟨#[97,110,110]⟩,⟨#[98,111,98]⟩,⟨#[51]⟩,⟨#[49,50]⟩,⟨#[49]⟩,⟨#[50]⟩,⟨#[97]⟩,⟨#[]⟩] X11 HS11.out.draw.src (by omega) HL11.out (by omega) (by omega)).mono ?_;rintro e X12 ⟨x,hx,rfl,hd⟩;have HS12:=zh (HS11.out.drawn hd hpw);have HQ12:=zh (Blk.drawn HQ11.out hd (by omega));have HXS:Hid (x.size≤16):=(by decide:∀s∈([⟨#[97,110,110]⟩,⟨#[98,111,98]⟩,⟨#[51]⟩,⟨#[49,50]⟩,⟨#[49]⟩,⟨#[50]⟩,⟨#[97]⟩,⟨#[]⟩]:List ByteArray),s.size≤16) x hx;clear hd hx;try go_wp2_with fail
          refine hK.out _ _ (fun _=>?ke67) (fun hHeld'=>?rs68);case ke67=>exact HSX.out _ _ HQ12.out HS12.out
          have hHeld:=hHeld' (by decide);clear hHeld';clear hK K;try simp only[Act.put,zA,zB,zC,zD,zE,zF]
          exact HALL X12 ib sb y z x ⟨HQ12,HS12,HTS,HXS⟩ hHeld
        case st26 =>
         go_simp;obtain⟨X13,hX13⟩:∃X,X=(wx.alloc (.cells #[.int .i64 1,.int .i64 1,.int .i64 1,.int .i64 2,.int .i64 3,.int .i64 4] 2)).drew:=⟨_,rfl⟩;rw[←hX13];have HB13:Hid (Below wx.drew.heap.size wx.drew X13):=by subst hX13;exact Below.new _ _
         have HS13:=zh (HSD.out.later HB13.out);have HQ13:=zh (HQD.out.later HB13.out HQD.out.lt);have HI13:Hid (Ints X13 X13.heap.size (some ⟨wx.heap.size,0,none⟩) 6 [1,1,1,2,3,4]):=by subst hX13;exact zBe wx.drew 2 [1,1,1,2,3,4] _ rfl
         have hp13:wx.heap.size≠p:=by have:=HSD.out.draw.chg.size;omega
         clear hX13;generalize wx.heap.size=ib at HI13 hp13 ⊢;refine hK.out _ _ (fun _=>?ke69) (fun hHeld'=>?rs70);case ke69=>exact HSX.out _ _ HQ13.out HS13.out
         have hHeld:=hHeld' (by decide);clear hHeld';clear hK K;try simp only[Act.put,zA,zB,zC,zD,zE,zF]
         refine yA (rs:=[6,13]) (by kernel_rfl) (by simp) ?_;refine AllReadyE.cons rfl (fun K hK=>?st71) (AllReadyE.cons rfl (fun K hK=>?st72) AllReadyE.nil)
         case st71 =>
          go_simp;refine(xG p (KK) n2 X13 HS13.out.draw.src (by omega) (by omega)).mono ?_;rintro e X14 ⟨y,rfl,hy,hd⟩;have HS14:=zh (HS13.out.drawn hd hpw);have HQ14:=zh (Blk.drawn HQ13.out hd (by omega));have HI14:=zh (zCG HI13.out hd hp13);have hyn:y<n2:=by omega
          have hyi:(y:Int)<(n2:Int):=by omega
          have HTS:Hid ((ct y).size≤16):=HCT.out y hyn;clear hd hy;try go_wp2_with fail
          refine hK.out _ _ (fun _=>?ke73) (fun hHeld'=>?rs74);case ke73=>exact HSX.out _ _ HQ14.out HS14.out
          have hHeld:=hHeld' (by decide);clear hHeld';clear hK K;try simp only[Act.put,zA,zB,zC,zD,zE,zF]
          refine wt 7 ?a75 [] ?b76 ?c77;case b76=>intro w hSw;(try dsimp only at hSw);go_simp;(try with_reducible rfl)
          try simp only[Act.put,zA,zB,zC,zD,zE,zF]
          refine wt 8 ?a78 [] ?b79 ?c80;case b79=>intro w hSw;(try dsimp only at hSw);go_simp;(try with_reducible rfl)
          try simp only[Act.put,zA,zB,zC,zD,zE,zF]
          refine yA (rs:=[11,13]) (by kernel_rfl) (by simp) ?_;refine AllReadyE.cons rfl (fun K hK=>?st81) (AllReadyE.cons rfl (fun K hK=>?st82) AllReadyE.nil)
          case st81 =>
           go_simp;refine(uS p (KK+2) (ib) 6 6 [1,1,1,2,3,4] X14 HS14.out.draw.src (by omega) HI14.out hp13 (by omega) (by omega)).mono ?_;rintro e X15 ⟨z,hz,rfl,hd⟩;have HS15:=zh (HS14.out.drawn hd hpw);have HQ15:=zh (Blk.drawn HQ14.out hd (by omega));clear hd;try go_wp2_with fail
           refine hK.out _ _ (fun _=>?ke83) (fun hHeld'=>?rs84);case ke83=>exact HSX.out _ _ HQ15.out HS15.out
           have hHeld:=hHeld' (by decide);clear hHeld';clear hK K;try simp only[Act.put,zA,zB,zC,zD,zE,zF]
           refine yA (rs:=[13]) (by kernel_rfl) (by simp) ?_;refine AllReadyE.cons rfl (fun K hK=>?st85) AllReadyE.nil;go_simp;obtain⟨X16,hX16⟩:∃X,X=X15.alloc (.cells #[.string ⟨#[97,110,110]⟩,.string ⟨#[98,111,98]⟩,.string ⟨#[51]⟩,.string ⟨#[49,50]⟩,.string ⟨#[49]⟩,.string ⟨#[50]⟩,.string ⟨#[97]⟩,.string ⟨#[]⟩] 9):=⟨_,rfl⟩;rw[←hX16];have HB16:Hid (Below X15.heap.size X15 X16):=by subst hX16;exact Below.new _ _
           have HS16:=zh (HS15.out.later HB16.out);have HQ16:=zh (HQ15.out.later HB16.out HQ15.out.lt);have HL16:Hid (Strs X16 X16.heap.size (some ⟨X15.heap.size,0,none⟩) 8 [⟨#[97,110,110]⟩,⟨#[98,111,98]⟩,⟨#[51]⟩,⟨#[49,50]⟩,⟨#[49]⟩,⟨#[50]⟩,⟨#[97]⟩,⟨#[]⟩]):=by subst hX16;exact vH X15 9 [⟨#[97,110,110]⟩,⟨#[98,111,98]⟩,⟨#[51]⟩,⟨#[49,50]⟩,⟨#[49]⟩,⟨#[50]⟩,⟨#[97]⟩,⟨#[]⟩] _ rfl
           clear hX16;generalize X15.heap.size=sb at HL16 ⊢;refine hK.out _ _ (fun _=>?ke86) (fun hHeld'=>?rs87);case ke86=>exact HSX.out _ _ HQ16.out HS16.out
           have hHeld:=hHeld' (by decide);clear hHeld';clear hK K;try simp only[Act.put,zA,zB,zC,zD,zE,zF]
           refine yA (rs:=[14]) (by kernel_rfl) (by simp) ?_;refine AllReadyE.cons rfl (fun K hK=>?st88) AllReadyE.nil;go_simp;refine(zH0 p (KK+2+2) (some ⟨sb,0,none⟩) 8 8 [⟨#[97,110,110]⟩,⟨#[98,111,98]⟩,⟨#[51]⟩,⟨#[49,50]⟩,⟨#[49]⟩,⟨#[50]⟩,⟨#[97]⟩,⟨#[]⟩] X16 HS16.out.draw.src (by omega) HL16.out (by omega) (by omega)).mono ?_;rintro e X17 ⟨x,hx,rfl,hd⟩;have HS17:=zh (HS16.out.drawn hd hpw);have HQ17:=zh (Blk.drawn HQ16.out hd (by omega));have HXS:Hid (x.size≤16):=(by decide:∀s∈([⟨#[97,110,110]⟩,⟨#[98,111,98]⟩,⟨#[51]⟩,⟨#[49,50]⟩,⟨#[49]⟩,⟨#[50]⟩,⟨#[97]⟩,⟨#[]⟩]:List ByteArray),s.size≤16) x hx;clear hd hx;try go_wp2_with fail
           refine hK.out _ _ (fun _=>?ke89) (fun hHeld'=>?rs90);case ke89=>exact HSX.out _ _ HQ17.out HS17.out
           have hHeld:=hHeld' (by decide);clear hHeld';clear hK K;try simp only[Act.put,zA,zB,zC,zD,zE,zF]
           exact HALL X17 ib sb y z x ⟨HQ17,HS17,HTS,HXS⟩ hHeld
          case st82 =>
           go_simp;obtain⟨X18,hX18⟩:∃X,X=X14.alloc (.cells #[.string ⟨#[97,110,110]⟩,.string ⟨#[98,111,98]⟩,.string ⟨#[51]⟩,.string ⟨#[49,50]⟩,.string ⟨#[49]⟩,.string ⟨#[50]⟩,.string ⟨#[97]⟩,.string ⟨#[]⟩] 9):=⟨_,rfl⟩;rw[←hX18];have HB18:Hid (Below X14.heap.size X14 X18):=by subst hX18;exact Below.new _ _
           have HS18:=zh (HS14.out.later HB18.out);have HQ18:=zh (HQ14.out.later HB18.out HQ14.out.lt);have HI18:=zh (HI14.out.later HB18.out);have HL18:Hid (Strs X18 X18.heap.size (some ⟨X14.heap.size,0,none⟩) 8 [⟨#[97,110,110]⟩,⟨#[98,111,98]⟩,⟨#[51]⟩,⟨#[49,50]⟩,⟨#[49]⟩,⟨#[50]⟩,⟨#[97]⟩,⟨#[]⟩]):=by subst hX18;exact vH X14 9 [⟨#[97,110,110]⟩,⟨#[98,111,98]⟩,⟨#[51]⟩,⟨#[49,50]⟩,⟨#[49]⟩,⟨#[50]⟩,⟨#[97]⟩,⟨#[]⟩] _ rfl
           clear hX18;generalize X14.heap.size=sb at HL18 ⊢;refine hK.out _ _ (fun _=>?ke91) (fun hHeld'=>?rs92);case ke91=>exact HSX.out _ _ HQ18.out HS18.out
           have hHeld:=hHeld' (by decide);clear hHeld';clear hK K;try simp only[Act.put,zA,zB,zC,zD,zE,zF]
           refine yA (rs:=[11]) (by kernel_rfl) (by simp) ?_;refine AllReadyE.cons rfl (fun K hK=>?st93) AllReadyE.nil;go_simp;refine(uS p (KK+2) (ib) 6 6 [1,1,1,2,3,4] X18 HS18.out.draw.src (by omega) HI18.out hp13 (by omega) (by omega)).mono ?_;rintro e X19 ⟨z,hz,rfl,hd⟩;have HS19:=zh (HS18.out.drawn hd hpw);have HQ19:=zh (Blk.drawn HQ18.out hd (by omega));have HL19:=zh (HS18.out.draw.src.strs HL18.out hd);clear hd;try go_wp2_with fail
           refine hK.out _ _ (fun _=>?ke94) (fun hHeld'=>?rs95);case ke94=>exact HSX.out _ _ HQ19.out HS19.out
           have hHeld:=hHeld' (by decide);clear hHeld';clear hK K;try simp only[Act.put,zA,zB,zC,zD,zE,zF]
           refine yA (rs:=[14]) (by kernel_rfl) (by simp) ?_;refine AllReadyE.cons rfl (fun K hK=>?st96) AllReadyE.nil;go_simp;refine(zH0 p (KK+2+2) (some ⟨sb,0,none⟩) 8 8 [⟨#[97,110,110]⟩,⟨#[98,111,98]⟩,⟨#[51]⟩,⟨#[49,50]⟩,⟨#[49]⟩,⟨#[50]⟩,⟨#[97]⟩,⟨#[]⟩] X19 HS19.out.draw.src (by omega) HL19.out (by omega) (by omega)).mono ?_;rintro e X20 ⟨x,hx,rfl,hd⟩;have HS20:=zh (HS19.out.drawn hd hpw);have HQ20:=zh (Blk.drawn HQ19.out hd (by omega));have HXS:Hid (x.size≤16):=(by decide:∀s∈([⟨#[97,110,110]⟩,⟨#[98,111,98]⟩,⟨#[51]⟩,⟨#[49,50]⟩,⟨#[49]⟩,⟨#[50]⟩,⟨#[97]⟩,⟨#[]⟩]:List ByteArray),s.size≤16) x hx;clear hd hx;try go_wp2_with fail
           refine hK.out _ _ (fun _=>?ke97) (fun hHeld'=>?rs98);case ke97=>exact HSX.out _ _ HQ20.out HS20.out
           have hHeld:=hHeld' (by decide);clear hHeld';clear hK K;try simp only[Act.put,zA,zB,zC,zD,zE,zF]
           exact HALL X20 ib sb y z x ⟨HQ20,HS20,HTS,HXS⟩ hHeld
         case st72 =>
          go_simp;obtain⟨X21,hX21⟩:∃X,X=X13.alloc (.cells #[.string ⟨#[97,110,110]⟩,.string ⟨#[98,111,98]⟩,.string ⟨#[51]⟩,.string ⟨#[49,50]⟩,.string ⟨#[49]⟩,.string ⟨#[50]⟩,.string ⟨#[97]⟩,.string ⟨#[]⟩] 9):=⟨_,rfl⟩;rw[←hX21];have HB21:Hid (Below X13.heap.size X13 X21):=by subst hX21;exact Below.new _ _
          have HS21:=zh (HS13.out.later HB21.out);have HQ21:=zh (HQ13.out.later HB21.out HQ13.out.lt);have HI21:=zh (HI13.out.later HB21.out);have HL21:Hid (Strs X21 X21.heap.size (some ⟨X13.heap.size,0,none⟩) 8 [⟨#[97,110,110]⟩,⟨#[98,111,98]⟩,⟨#[51]⟩,⟨#[49,50]⟩,⟨#[49]⟩,⟨#[50]⟩,⟨#[97]⟩,⟨#[]⟩]):=by subst hX21;exact vH X13 9 [⟨#[97,110,110]⟩,⟨#[98,111,98]⟩,⟨#[51]⟩,⟨#[49,50]⟩,⟨#[49]⟩,⟨#[50]⟩,⟨#[97]⟩,⟨#[]⟩] _ rfl
          clear hX21;generalize X13.heap.size=sb at HL21 ⊢;refine hK.out _ _ (fun _=>?ke99) (fun hHeld'=>?rs100);case ke99=>exact HSX.out _ _ HQ21.out HS21.out
          have hHeld:=hHeld' (by decide);clear hHeld';clear hK K;try simp only[Act.put,zA,zB,zC,zD,zE,zF]
          refine yA (rs:=[6]) (by kernel_rfl) (by simp) ?_;refine AllReadyE.cons rfl (fun K hK=>?st101) AllReadyE.nil;go_simp;refine(xG p (KK) n2 X21 HS21.out.draw.src (by omega) (by omega)).mono ?_;rintro e X22 ⟨y,rfl,hy,hd⟩;have HS22:=zh (HS21.out.drawn hd hpw);have HQ22:=zh (Blk.drawn HQ21.out hd (by omega));have HI22:=zh (zCG HI21.out hd hp13);have HL22:=zh (HS21.out.draw.src.strs HL21.out hd);have hyn:y<n2:=by omega
          have hyi:(y:Int)<(n2:Int):=by omega
          have HTS:Hid ((ct y).size≤16):=HCT.out y hyn;clear hd hy;try go_wp2_with fail
          refine hK.out _ _ (fun _=>?ke102) (fun hHeld'=>?rs103);case ke102=>exact HSX.out _ _ HQ22.out HS22.out
          have hHeld:=hHeld' (by decide);clear hHeld';clear hK K;try simp only[Act.put,zA,zB,zC,zD,zE,zF]
          refine wt 7 ?a104 [] ?b105 ?c106;case b105=>intro w hSw;(try dsimp only at hSw);go_simp;(try with_reducible rfl)
          try simp only[Act.put,zA,zB,zC,zD,zE,zF]
          refine wt 8 ?a107 [] ?b108 ?c109;case b108=>intro w hSw;(try dsimp only at hSw);go_simp;(try with_reducible rfl)
          try simp only[Act.put,zA,zB,zC,zD,zE,zF]
          refine yA (rs:=[11]) (by kernel_rfl) (by simp) ?_;refine AllReadyE.cons rfl (fun K hK=>?st110) AllReadyE.nil;go_simp;refine(uS p (KK+2) (ib) 6 6 [1,1,1,2,3,4] X22 HS22.out.draw.src (by omega) HI22.out hp13 (by omega) (by omega)).mono ?_;rintro e X23 ⟨z,hz,rfl,hd⟩;have HS23:=zh (HS22.out.drawn hd hpw);have HQ23:=zh (Blk.drawn HQ22.out hd (by omega));have HL23:=zh (HS22.out.draw.src.strs HL22.out hd);clear hd;try go_wp2_with fail
          refine hK.out _ _ (fun _=>?ke111) (fun hHeld'=>?rs112);case ke111=>exact HSX.out _ _ HQ23.out HS23.out
          have hHeld:=hHeld' (by decide);clear hHeld';clear hK K;try simp only[Act.put,zA,zB,zC,zD,zE,zF]
          refine yA (rs:=[14]) (by kernel_rfl) (by simp) ?_;refine AllReadyE.cons rfl (fun K hK=>?st113) AllReadyE.nil;go_simp;refine(zH0 p (KK+2+2) (some ⟨sb,0,none⟩) 8 8 [⟨#[97,110,110]⟩,⟨#[98,111,98]⟩,⟨#[51]⟩,⟨#[49,50]⟩,⟨#[49]⟩,⟨#[50]⟩,⟨#[97]⟩,⟨#[]⟩] X23 HS23.out.draw.src (by omega) HL23.out (by omega) (by omega)).mono ?_;rintro e X24 ⟨x,hx,rfl,hd⟩;have HS24:=zh (HS23.out.drawn hd hpw);have HQ24:=zh (Blk.drawn HQ23.out hd (by omega));have HXS:Hid (x.size≤16):=(by decide:∀s∈([⟨#[97,110,110]⟩,⟨#[98,111,98]⟩,⟨#[51]⟩,⟨#[49,50]⟩,⟨#[49]⟩,⟨#[50]⟩,⟨#[97]⟩,⟨#[]⟩]:List ByteArray),s.size≤16) x hx;clear hd hx;try go_wp2_with fail
          refine hK.out _ _ (fun _=>?ke114) (fun hHeld'=>?rs115);case ke114=>exact HSX.out _ _ HQ24.out HS24.out
          have hHeld:=hHeld' (by decide);clear hHeld';clear hK K;try simp only[Act.put,zA,zB,zC,zD,zE,zF]
          exact HALL X24 ib sb y z x ⟨HQ24,HS24,HTS,HXS⟩ hHeld
        case st27 =>
         go_simp;obtain⟨X25,hX25⟩:∃X,X=(wx.alloc (.cells #[.string ⟨#[97,110,110]⟩,.string ⟨#[98,111,98]⟩,.string ⟨#[51]⟩,.string ⟨#[49,50]⟩,.string ⟨#[49]⟩,.string ⟨#[50]⟩,.string ⟨#[97]⟩,.string ⟨#[]⟩] 9)).drew:=⟨_,rfl⟩;rw[←hX25];have HB25:Hid (Below wx.drew.heap.size wx.drew X25):=by subst hX25;exact Below.new _ _
         have HS25:=zh (HSD.out.later HB25.out);have HQ25:=zh (HQD.out.later HB25.out HQD.out.lt);have HL25:Hid (Strs X25 X25.heap.size (some ⟨wx.heap.size,0,none⟩) 8 [⟨#[97,110,110]⟩,⟨#[98,111,98]⟩,⟨#[51]⟩,⟨#[49,50]⟩,⟨#[49]⟩,⟨#[50]⟩,⟨#[97]⟩,⟨#[]⟩]):=by subst hX25;exact vH wx.drew 9 [⟨#[97,110,110]⟩,⟨#[98,111,98]⟩,⟨#[51]⟩,⟨#[49,50]⟩,⟨#[49]⟩,⟨#[50]⟩,⟨#[97]⟩,⟨#[]⟩] _ rfl
         clear hX25;generalize wx.heap.size=sb at HL25 ⊢;refine hK.out _ _ (fun _=>?ke116) (fun hHeld'=>?rs117);case ke116=>exact HSX.out _ _ HQ25.out HS25.out
         have hHeld:=hHeld' (by decide);clear hHeld';clear hK K;try simp only[Act.put,zA,zB,zC,zD,zE,zF]
         refine yA (rs:=[6,10]) (by kernel_rfl) (by simp) ?_;refine AllReadyE.cons rfl (fun K hK=>?st118) (AllReadyE.cons rfl (fun K hK=>?st119) AllReadyE.nil)
         case st118 =>
          go_simp;refine(xG p (KK) n2 X25 HS25.out.draw.src (by omega) (by omega)).mono ?_;rintro e X26 ⟨y,rfl,hy,hd⟩;have HS26:=zh (HS25.out.drawn hd hpw);have HQ26:=zh (Blk.drawn HQ25.out hd (by omega));have HL26:=zh (HS25.out.draw.src.strs HL25.out hd);have hyn:y<n2:=by omega
          have hyi:(y:Int)<(n2:Int):=by omega
          have HTS:Hid ((ct y).size≤16):=HCT.out y hyn;clear hd hy;try go_wp2_with fail
          refine hK.out _ _ (fun _=>?ke120) (fun hHeld'=>?rs121);case ke120=>exact HSX.out _ _ HQ26.out HS26.out
          have hHeld:=hHeld' (by decide);clear hHeld';clear hK K;try simp only[Act.put,zA,zB,zC,zD,zE,zF]
          refine wt 7 ?a122 [] ?b123 ?c124;case b123=>intro w hSw;(try dsimp only at hSw);go_simp;(try with_reducible rfl)
          try simp only[Act.put,zA,zB,zC,zD,zE,zF]
          refine wt 8 ?a125 [] ?b126 ?c127;case b126=>intro w hSw;(try dsimp only at hSw);go_simp;(try with_reducible rfl)
          try simp only[Act.put,zA,zB,zC,zD,zE,zF]
          refine yA (rs:=[10]) (by kernel_rfl) (by simp) ?_;refine AllReadyE.cons rfl (fun K hK=>?st128) AllReadyE.nil;go_simp;obtain⟨X27,hX27⟩:∃X,X=X26.alloc (.cells #[.int .i64 1,.int .i64 1,.int .i64 1,.int .i64 2,.int .i64 3,.int .i64 4] 2):=⟨_,rfl⟩;rw[←hX27];have HB27:Hid (Below X26.heap.size X26 X27):=by subst hX27;exact Below.new _ _
          have HS27:=zh (HS26.out.later HB27.out);have HQ27:=zh (HQ26.out.later HB27.out HQ26.out.lt);have HL27:=zh (HL26.out.later HB27.out);have HI27:Hid (Ints X27 X27.heap.size (some ⟨X26.heap.size,0,none⟩) 6 [1,1,1,2,3,4]):=by subst hX27;exact zBe X26 2 [1,1,1,2,3,4] _ rfl
          have hp27:X26.heap.size≠p:=by have:=HS26.out.draw.chg.size;omega
          clear hX27;generalize X26.heap.size=ib at HI27 hp27 ⊢;refine hK.out _ _ (fun _=>?ke129) (fun hHeld'=>?rs130);case ke129=>exact HSX.out _ _ HQ27.out HS27.out
          have hHeld:=hHeld' (by decide);clear hHeld';clear hK K;try simp only[Act.put,zA,zB,zC,zD,zE,zF]
          refine yA (rs:=[11]) (by kernel_rfl) (by simp) ?_;refine AllReadyE.cons rfl (fun K hK=>?st131) AllReadyE.nil;go_simp;refine(uS p (KK+2) (ib) 6 6 [1,1,1,2,3,4] X27 HS27.out.draw.src (by omega) HI27.out hp27 (by omega) (by omega)).mono ?_;rintro e X28 ⟨z,hz,rfl,hd⟩;have HS28:=zh (HS27.out.drawn hd hpw);have HQ28:=zh (Blk.drawn HQ27.out hd (by omega));have HL28:=zh (HS27.out.draw.src.strs HL27.out hd);clear hd;try go_wp2_with fail
          refine hK.out _ _ (fun _=>?ke132) (fun hHeld'=>?rs133);case ke132=>exact HSX.out _ _ HQ28.out HS28.out
          have hHeld:=hHeld' (by decide);clear hHeld';clear hK K;try simp only[Act.put,zA,zB,zC,zD,zE,zF]
          refine yA (rs:=[14]) (by kernel_rfl) (by simp) ?_;refine AllReadyE.cons rfl (fun K hK=>?st134) AllReadyE.nil;go_simp;refine(zH0 p (KK+2+2) (some ⟨sb,0,none⟩) 8 8 [⟨#[97,110,110]⟩,⟨#[98,111,98]⟩,⟨#[51]⟩,⟨#[49,50]⟩,⟨#[49]⟩,⟨#[50]⟩,⟨#[97]⟩,⟨#[]⟩] X28 HS28.out.draw.src (by omega) HL28.out (by omega) (by omega)).mono ?_;rintro e X29 ⟨x,hx,rfl,hd⟩;have HS29:=zh (HS28.out.drawn hd hpw);have HQ29:=zh (Blk.drawn HQ28.out hd (by omega));have HXS:Hid (x.size≤16):=(by decide:∀s∈([⟨#[97,110,110]⟩,⟨#[98,111,98]⟩,⟨#[51]⟩,⟨#[49,50]⟩,⟨#[49]⟩,⟨#[50]⟩,⟨#[97]⟩,⟨#[]⟩]:List ByteArray),s.size≤16) x hx;clear hd hx;try go_wp2_with fail
          refine hK.out _ _ (fun _=>?ke135) (fun hHeld'=>?rs136);case ke135=>exact HSX.out _ _ HQ29.out HS29.out
          have hHeld:=hHeld' (by decide);clear hHeld';clear hK K;try simp only[Act.put,zA,zB,zC,zD,zE,zF]
          exact HALL X29 ib sb y z x ⟨HQ29,HS29,HTS,HXS⟩ hHeld
         case st119 =>
          go_simp;obtain⟨X30,hX30⟩:∃X,X=X25.alloc (.cells #[.int .i64 1,.int .i64 1,.int .i64 1,.int .i64 2,.int .i64 3,.int .i64 4] 2):=⟨_,rfl⟩;rw[←hX30];have HB30:Hid (Below X25.heap.size X25 X30):=by subst hX30;exact Below.new _ _
          have HS30:=zh (HS25.out.later HB30.out);have HQ30:=zh (HQ25.out.later HB30.out HQ25.out.lt);have HL30:=zh (HL25.out.later HB30.out);have HI30:Hid (Ints X30 X30.heap.size (some ⟨X25.heap.size,0,none⟩) 6 [1,1,1,2,3,4]):=by subst hX30;exact zBe X25 2 [1,1,1,2,3,4] _ rfl
          have hp30:X25.heap.size≠p:=by have:=HS25.out.draw.chg.size;omega
          clear hX30;generalize X25.heap.size=ib at HI30 hp30 ⊢;refine hK.out _ _ (fun _=>?ke137) (fun hHeld'=>?rs138);case ke137=>exact HSX.out _ _ HQ30.out HS30.out
          have hHeld:=hHeld' (by decide);clear hHeld';clear hK K;try simp only[Act.put,zA,zB,zC,zD,zE,zF]
          refine yA (rs:=[6]) (by kernel_rfl) (by simp) ?_;refine AllReadyE.cons rfl (fun K hK=>?st139) AllReadyE.nil;go_simp;refine(xG p (KK) n2 X30 HS30.out.draw.src (by omega) (by omega)).mono ?_;rintro e X31 ⟨y,rfl,hy,hd⟩;have HS31:=zh (HS30.out.drawn hd hpw);have HQ31:=zh (Blk.drawn HQ30.out hd (by omega));have HI31:=zh (zCG HI30.out hd hp30);have HL31:=zh (HS30.out.draw.src.strs HL30.out hd);have hyn:y<n2:=by omega
          have hyi:(y:Int)<(n2:Int):=by omega
          have HTS:Hid ((ct y).size≤16):=HCT.out y hyn;clear hd hy;try go_wp2_with fail
          refine hK.out _ _ (fun _=>?ke140) (fun hHeld'=>?rs141);case ke140=>exact HSX.out _ _ HQ31.out HS31.out
          have hHeld:=hHeld' (by decide);clear hHeld';clear hK K;try simp only[Act.put,zA,zB,zC,zD,zE,zF]
          refine wt 7 ?a142 [] ?b143 ?c144;case b143=>intro w hSw;(try dsimp only at hSw);go_simp;(try with_reducible rfl)
          try simp only[Act.put,zA,zB,zC,zD,zE,zF]
          refine wt 8 ?a145 [] ?b146 ?c147;case b146=>intro w hSw;(try dsimp only at hSw);go_simp;(try with_reducible rfl)
          try simp only[Act.put,zA,zB,zC,zD,zE,zF]
          refine yA (rs:=[11]) (by kernel_rfl) (by simp) ?_;refine AllReadyE.cons rfl (fun K hK=>?st148) AllReadyE.nil;go_simp;refine(uS p (KK+2) (ib) 6 6 [1,1,1,2,3,4] X31 HS31.out.draw.src (by omega) HI31.out hp30 (by omega) (by omega)).mono ?_;rintro e X32 ⟨z,hz,rfl,hd⟩;have HS32:=zh (HS31.out.drawn hd hpw);have HQ32:=zh (Blk.drawn HQ31.out hd (by omega));have HL32:=zh (HS31.out.draw.src.strs HL31.out hd);clear hd;try go_wp2_with fail
          refine hK.out _ _ (fun _=>?ke149) (fun hHeld'=>?rs150);case ke149=>exact HSX.out _ _ HQ32.out HS32.out
          have hHeld:=hHeld' (by decide);clear hHeld';clear hK K;try simp only[Act.put,zA,zB,zC,zD,zE,zF]
          refine yA (rs:=[14]) (by kernel_rfl) (by simp) ?_;refine AllReadyE.cons rfl (fun K hK=>?st151) AllReadyE.nil;go_simp;refine(zH0 p (KK+2+2) (some ⟨sb,0,none⟩) 8 8 [⟨#[97,110,110]⟩,⟨#[98,111,98]⟩,⟨#[51]⟩,⟨#[49,50]⟩,⟨#[49]⟩,⟨#[50]⟩,⟨#[97]⟩,⟨#[]⟩] X32 HS32.out.draw.src (by omega) HL32.out (by omega) (by omega)).mono ?_;rintro e X33 ⟨x,hx,rfl,hd⟩;have HS33:=zh (HS32.out.drawn hd hpw);have HQ33:=zh (Blk.drawn HQ32.out hd (by omega));have HXS:Hid (x.size≤16):=(by decide:∀s∈([⟨#[97,110,110]⟩,⟨#[98,111,98]⟩,⟨#[51]⟩,⟨#[49,50]⟩,⟨#[49]⟩,⟨#[50]⟩,⟨#[97]⟩,⟨#[]⟩]:List ByteArray),s.size≤16) x hx;clear hd hx;try go_wp2_with fail
          refine hK.out _ _ (fun _=>?ke152) (fun hHeld'=>?rs153);case ke152=>exact HSX.out _ _ HQ33.out HS33.out
          have hHeld:=hHeld' (by decide);clear hHeld';clear hK K;try simp only[Act.put,zA,zB,zC,zD,zE,zF]
          exact HALL X33 ib sb y z x ⟨HQ33,HS33,HTS,HXS⟩ hHeld
       case t =>
        intro wy ib sb y z x HAL hHeld;obtain⟨HQY,HSY,HTS,HXS⟩:=HAL;clear HQD HSD;refine wt 15 ?a154 [] ?b155 ?c156;case b155=>intro w hSw;(try dsimp only at hSw);go_simp;(try with_reducible rfl)
        try simp only[Act.put,zA,zB,zC,zD,zE,zF]
        refine yA (rs:=[16]) (by kernel_rfl) (by simp) ?_;refine AllReadyE.cons rfl (fun K hK=>?st157) AllReadyE.nil;go_simp;obtain⟨X34,hX34⟩:∃X,X=wy.alloc (.cells #[.string (ct y),.int .i64 z,.string x] 44):=⟨_,rfl⟩;rw[←hX34];have HB34:Hid (Below wy.heap.size wy X34):=by subst hX34;exact Below.new _ _
        have HS34:=zh (HSY.out.later HB34.out);have HQ34:=zh (HQY.out.later HB34.out HQY.out.lt);have HN34:Hid (∀j u,[Value.string (ct y),.int .i64 z,.string x][j]?=some u→X34.cell? ((⟨wy.heap.size,0,none⟩:Addr).add j)=some u):=by subst hX34;exact zAG _ _ _
        clear hX34;refine hK.out _ _ (fun _=>?ke158) (fun hHeld'=>?rs159);case ke158=>exact HSX.out _ _ HQ34.out HS34.out
        have hHeld:=hHeld' (by decide);clear hHeld';clear hK K;try simp only[Act.put,zA,zB,zC,zD,zE,zF]
        refine yA (rs:=[17]) (by kernel_rfl) (by simp) ?_;refine AllReadyE.cons rfl (fun K hK=>?st160) AllReadyE.nil;have HRA:Hid (X34.ownsRow w.heap.size 44 3 u m (zAl fs)):=by have h:=HS34.out.own.wher;unfold CondO at h;rw[show(QueryD.wher ⟨nm,ss,fs,⟨#[]⟩,false,0⟩)=fs from rfl,HM.out]at h;exact h
        refine step_append_lies _ (by rfl) _ _ _ (by rfl) w.heap.size 44 j0 _ 3 40 Tryz.underlying30 hj hy0 hy1 hy2 rfl (by omega) u m (zAl fs) (by rfl) (by exact HRA.out) ⟨wy.heap.size,0,none⟩ 1 1 [.string (ct y),.int .i64 z,.string x] (by rfl) (by rfl) (by exact HN34.out) (by simp[Value.oneCell']) (by omega) (by unfold maxLen;omega) (by omega) (by have:=HS34.out.draw.chg.size;omega) X34.heap.size rfl ?_;intro gg cap' X35 hown hgrow _ _;have HQ35:=zh (HQ34.out.grown hgrow (fun e=>Own.own_blk_ne HRA.out HQ34.out (by decide) e.symm));have HS35:=zh (HS34.out.wher_ (x:=⟨(ct y),z,x⟩) (zFr hown (by rw[show(QueryD.wher ⟨nm,ss,fs,⟨#[]⟩,false,0⟩)=fs from rfl,HM.out])) hgrow hpw (Nat.le_refl _));clear hown hgrow;have q0:=HQ35.out.cell 2;have qf:=HQ35.out.frozen 2;have qz:=HQ35.out.lt;simp at q0;refine hK.out _ _ (fun _=>?ke161) (fun hHeld'=>?rs162);case ke161=>exact⟨q0,(HS35.out.tab.cell 2).trans rfl,fun j hj=>(HSZ.out _ _ HS35.out.draw) j hj⟩
        have hHeld:=hHeld' (by decide);clear hHeld';clear hK K;try simp only[Act.put,zA,zB,zC,zD,zE,zF]
        refine wt 18 ?a163 [] ?b164 ?c165;case b164=>intro w hSw;(try dsimp only at hSw);go_simp;(try with_reducible rfl)
        try simp only[Act.put,zA,zB,zC,zD,zE,zF]
        refine yA (rs:=[19]) (by kernel_rfl) (by simp) ?_;refine AllReadyE.cons rfl (fun K hK=>?st166) AllReadyE.nil;go_simp;refine hK.out _ _ (fun h=>absurd rfl h) (fun hHeld=>?rs168);clear hK K;try simp only[Act.put,zA,zB,zC,zD,zE,zF]
        refine vE (by kernel_rfl) ?_ _
        as_aux_lemma =>
         clear hHeld;have hlen:(fs++[(⟨ct y,z,x⟩:CondD)]).length=m+1:=by rw[List.length_append,HM.out];rfl
         have HRS:=zh (QSt.mono (K':=K+2*n2+2+6*(fs++[(⟨ct y,z,x⟩:CondD)]).length) (HS35.out.side HQ35.out (by omega) hpw (Nat.le_refl _) 2 (.slice (some ⟨gg,0,none⟩) (m+1) cap')) (by have:=HKK.out;rw[hlen];omega));have HLN:=zh hlen;clear hlen;go_wp2_with fail;go_roundw;case rel=>exact⟨jj-1,_,fs++[(⟨ct y,z,x⟩:CondD)],by go_num,by rw[HLN.out];omega,HQ35.out.set_ 2 _,HRS.out,zDE HFZ.out HTS.out HXS.out⟩
         case measure=>simp[intOf];omega
     · have HSQ:=zh HS.out;have hfm:m≤2:=by omega
       have HFM:Hid (fs.length≤2):=by unfold Hid;rw[HM.out];exact hfm
       obtain⟨AV,cv,ev,_,_⟩:=Own.own_slice HS.out.own.cols;obtain⟨AU,cu,eu,_,_⟩:=Own.own_slice HS.out.own.wher;subst ev eu;have HK3:=zh (wU p KK 2 wx HS.out.draw.src (by omega) (by omega));rcases hout with hj0 | ⟨hj0,hn0⟩
       all_goals
        (first | subst hj0 | skip)
        go_wp2_with fail;refine HK3.out.mono ?_;rintro e w4 ⟨b1,rfl,hd4⟩;have HS4:=zh (HS.out.drawn hd4 hpw);have HQ4:=zh (Blk.drawn HQ.out hd4 (by omega));clear hd4 HK3 HS HQ t2 tz q2 qf qz hww;have HOE:Hid ((⟨#[]⟩:ByteArray).size≤16):=by unfold Hid;decide
        cases b1 with
        | false =>
          have HS5:=zh (HS4.out.mono (show KK+2≤KK+8 by omega));have HQ5:=HQ4;have HOD:=HOE;clear HS4 HQ4 HOE;have HK5:=zh (wU p (KK+8) 3 _ HS5.out.draw.src (by omega) (by omega));go_wp2_with fail;refine HK5.out.mono ?_;rintro e w6 ⟨b3,rfl,hd6⟩;have HS6:=zh (HS5.out.drawn hd6 hpw);have HQ6:=zh (Blk.drawn HQ5.out hd6 (by omega));clear hd6 HK5 HS5 HQ5
          cases b3 with
          | false =>
            have pq0:=HQ6.out.cell 0;have pq1:=HQ6.out.cell 1;have pq2:=HQ6.out.cell 2;have pq3:=HQ6.out.cell 3;have pq4:=HQ6.out.cell 4;have pq5:=HQ6.out.cell 5;have r0:=HS6.out.res.cell 0;have r1:=HS6.out.res.cell 1;have r2:=HS6.out.res.cell 2;have r3:=HS6.out.res.cell 3;have r4:=HS6.out.res.cell 4;have r5:=HS6.out.res.cell 5;have rf0:=HS6.out.res.frozen 0;have rf1:=HS6.out.res.frozen 1;have rf2:=HS6.out.res.frozen 2;have rf3:=HS6.out.res.frozen 3;have rf4:=HS6.out.res.frozen 4;have rf5:=HS6.out.res.frozen 5;have rz:=HS6.out.res.lt;have pz:=HQ6.out.lt;have hrq:w.heap.size+1≠w.heap.size+1+1:=by omega
            simp at pq0 pq1 pq2 pq3 pq4 pq5 r0 r1 r2 r3 r4 r5;go_wp2_with fail;have HE:=zh (zQ0 HS6.out hpw (Nat.le_refl _));refine bodyPost_ret (v:=.agg #[.string nm,.slice AV ss.length cv,.slice AU fs.length cu,.string ⟨#[]⟩,.bool false,.int .i64 0]) (by simp[results,Tryz.results98,go_sem,r0,r1,r2,r3,r4,r5]) rfl ?_;exact⟨_,_,_,_,_,_,_,rfl,(HE.out _ _ _ _ _ _).1,⟨HNM.out,⟨HLK.out,HZ.out⟩,⟨HFM.out,HFZ.out⟩,HOD.out⟩,(HE.out _ _ _ _ _ _).2.mono (by have:=HKK.out;omega)⟩
          | true =>
            have HK7:=zh (xG p (KK+8+2) 4 w6 HS6.out.draw.src (by omega) (by omega));go_wp2_with fail;refine HK7.out.mono ?_;rintro e w7 ⟨x4,rfl,hx4,hd7⟩;have HS7:=zh (HS6.out.drawn hd7 hpw);have HQ7:=zh (Blk.drawn HQ6.out hd7 (by omega));have hx43:x4≤3:=by omega
            clear hd7 HK7 HS6 HQ6 hx4;have qf5:=HQ7.out.frozen 5;have HS8:=zh ((HS7.out.side HQ7.out (by omega) hpw (Nat.le_refl _) 5 (.int .i64 (1+(x4:Int)))).lim_ (1+(x4:Int)));have pq0:=HQ7.out.cell 0;have pq1:=HQ7.out.cell 1;have pq2:=HQ7.out.cell 2;have pq3:=HQ7.out.cell 3;have pq4:=HQ7.out.cell 4;have pq5:=HQ7.out.cell 5;have r0:=HS7.out.res.cell 0;have r1:=HS7.out.res.cell 1;have r2:=HS7.out.res.cell 2;have r3:=HS7.out.res.cell 3;have r4:=HS7.out.res.cell 4;have r5:=HS7.out.res.cell 5;have rf0:=HS7.out.res.frozen 0;have rf1:=HS7.out.res.frozen 1;have rf2:=HS7.out.res.frozen 2;have rf3:=HS7.out.res.frozen 3;have rf4:=HS7.out.res.frozen 4;have rf5:=HS7.out.res.frozen 5;have rz:=HS7.out.res.lt;have pz:=HQ7.out.lt;have hrq:w.heap.size+1≠w.heap.size+1+1:=by omega
            simp at pq0 pq1 pq2 pq3 pq4 pq5 r0 r1 r2 r3 r4 r5;go_wp2_with fail;have HE:=zh (zQ0 HS8.out hpw (Nat.le_refl _));refine bodyPost_ret (v:=.agg #[.string nm,.slice AV ss.length cv,.slice AU fs.length cu,.string ⟨#[]⟩,.bool false,.int .i64 (1+(x4:Int))]) (by simp[results,Tryz.results98,go_sem,r0,r1,r2,r3,r4,r5]) rfl ?_;exact⟨_,_,_,_,_,_,_,rfl,(HE.out _ _ _ _ _ _).1,⟨HNM.out,⟨HLK.out,HZ.out⟩,⟨HFM.out,HFZ.out⟩,HOD.out⟩,(HE.out _ _ _ _ _ _).2.mono (by have:=HKK.out;omega)⟩
        | true =>
          by_cases hn1:n2=0
          · have HS5:=zh (HS4.out.mono (show KK+2≤KK+8 by omega));have HQ5:=HQ4;have HOD:=HOE;clear HS4 HQ4 HOE;have HK5:=zh (wU p (KK+8) 3 _ HS5.out.draw.src (by omega) (by omega));go_wp2_with fail;refine HK5.out.mono ?_;rintro e w6 ⟨b3,rfl,hd6⟩;have HS6:=zh (HS5.out.drawn hd6 hpw);have HQ6:=zh (Blk.drawn HQ5.out hd6 (by omega));clear hd6 HK5 HS5 HQ5
            cases b3 with
            | false =>
              have pq0:=HQ6.out.cell 0;have pq1:=HQ6.out.cell 1;have pq2:=HQ6.out.cell 2;have pq3:=HQ6.out.cell 3;have pq4:=HQ6.out.cell 4;have pq5:=HQ6.out.cell 5;have r0:=HS6.out.res.cell 0;have r1:=HS6.out.res.cell 1;have r2:=HS6.out.res.cell 2;have r3:=HS6.out.res.cell 3;have r4:=HS6.out.res.cell 4;have r5:=HS6.out.res.cell 5;have rf0:=HS6.out.res.frozen 0;have rf1:=HS6.out.res.frozen 1;have rf2:=HS6.out.res.frozen 2;have rf3:=HS6.out.res.frozen 3;have rf4:=HS6.out.res.frozen 4;have rf5:=HS6.out.res.frozen 5;have rz:=HS6.out.res.lt;have pz:=HQ6.out.lt;have hrq:w.heap.size+1≠w.heap.size+1+1:=by omega
              simp at pq0 pq1 pq2 pq3 pq4 pq5 r0 r1 r2 r3 r4 r5;go_wp2_with fail;have HE:=zh (zQ0 HS6.out hpw (Nat.le_refl _));refine bodyPost_ret (v:=.agg #[.string nm,.slice AV ss.length cv,.slice AU fs.length cu,.string ⟨#[]⟩,.bool false,.int .i64 0]) (by simp[results,Tryz.results98,go_sem,r0,r1,r2,r3,r4,r5]) rfl ?_;exact⟨_,_,_,_,_,_,_,rfl,(HE.out _ _ _ _ _ _).1,⟨HNM.out,⟨HLK.out,HZ.out⟩,⟨HFM.out,HFZ.out⟩,HOD.out⟩,(HE.out _ _ _ _ _ _).2.mono (by have:=HKK.out;omega)⟩
            | true =>
              have HK7:=zh (xG p (KK+8+2) 4 w6 HS6.out.draw.src (by omega) (by omega));go_wp2_with fail;refine HK7.out.mono ?_;rintro e w7 ⟨x4,rfl,hx4,hd7⟩;have HS7:=zh (HS6.out.drawn hd7 hpw);have HQ7:=zh (Blk.drawn HQ6.out hd7 (by omega));have hx43:x4≤3:=by omega
              clear hd7 HK7 HS6 HQ6 hx4;have qf5:=HQ7.out.frozen 5;have HS8:=zh ((HS7.out.side HQ7.out (by omega) hpw (Nat.le_refl _) 5 (.int .i64 (1+(x4:Int)))).lim_ (1+(x4:Int)));have pq0:=HQ7.out.cell 0;have pq1:=HQ7.out.cell 1;have pq2:=HQ7.out.cell 2;have pq3:=HQ7.out.cell 3;have pq4:=HQ7.out.cell 4;have pq5:=HQ7.out.cell 5;have r0:=HS7.out.res.cell 0;have r1:=HS7.out.res.cell 1;have r2:=HS7.out.res.cell 2;have r3:=HS7.out.res.cell 3;have r4:=HS7.out.res.cell 4;have r5:=HS7.out.res.cell 5;have rf0:=HS7.out.res.frozen 0;have rf1:=HS7.out.res.frozen 1;have rf2:=HS7.out.res.frozen 2;have rf3:=HS7.out.res.frozen 3;have rf4:=HS7.out.res.frozen 4;have rf5:=HS7.out.res.frozen 5;have rz:=HS7.out.res.lt;have pz:=HQ7.out.lt;have hrq:w.heap.size+1≠w.heap.size+1+1:=by omega
              simp at pq0 pq1 pq2 pq3 pq4 pq5 r0 r1 r2 r3 r4 r5;go_wp2_with fail;have HE:=zh (zQ0 HS8.out hpw (Nat.le_refl _));refine bodyPost_ret (v:=.agg #[.string nm,.slice AV ss.length cv,.slice AU fs.length cu,.string ⟨#[]⟩,.bool false,.int .i64 (1+(x4:Int))]) (by simp[results,Tryz.results98,go_sem,r0,r1,r2,r3,r4,r5]) rfl ?_;exact⟨_,_,_,_,_,_,_,rfl,(HE.out _ _ _ _ _ _).1,⟨HNM.out,⟨HLK.out,HZ.out⟩,⟨HFM.out,HFZ.out⟩,HOD.out⟩,(HE.out _ _ _ _ _ _).2.mono (by have:=HKK.out;omega)⟩
          · first | (exfalso;omega) | skip
            all_goals
             have hn0:0<n2:=by omega
             clear hn1;obtain⟨bb,o,e2,hbB,_⟩:=(HCX.out w4 _ HS4.out.draw).2 hn0;subst e2;obtain⟨ct,hct⟩:∃ct:Nat→ByteArray,ct=fun j=>cs.getD j ByteArray.empty:=⟨_,rfl⟩;have HCT:Hid (∀j,j<n2→(ct j).size≤16):=fun j hj=>by subst hct;exact HCA.out _ (Own.mem_of_getD cs j _ (by rw[HCL.out];exact hj))
             have HSZ:Hid (∀X K',Drawn p K' w X→∀j,j<n2→X.cell? ⟨bb,o+j,none⟩=some (.string (ct j))):=fun X K' h2 j hj=>by obtain⟨b',o',e,_,hc⟩:=(HCX.out X _ h2).2 hn0;cases e;subst hct;exact hc j hj
             have HQD:Hid (Blk w4.drew (w.heap.size+1+1) 32 #[.string nm,.slice AV ss.length cv,.slice AU fs.length cu,.string ⟨#[]⟩,.bool false,.int .i64 0]):=HQ4.out;have HSD:=zh (HS4.out.later (Below.refl _ w4).drew);clear hbB hct;go_wp2_with fail;refine zE0 (S:=fun X=>X.cell? ⟨w.heap.size,2,none⟩=some (.slice (some ⟨bb,o,none⟩) n2 p2)∧∀j,j<n2→X.cell? ⟨bb,o+j,none⟩=some (.string (ct j))) 8 (by kernel_rfl) ?hS1 (fun hHeld=>?rg1);case hS1=>exact⟨(HSD.out.tab.cell 2).trans rfl,HSZ.out _ _ HSD.out.draw⟩
             refine wt 0 ?ma1 [] ?mb2 ?mc3;case mb2=>intro w hSw;(try dsimp only at hSw);go_simp;(try with_reducible rfl)
             try simp only[Act.put,zA,zB,zC,zD,zF]
             refine wt 1 ?ma4 [] ?mb5 ?mc6;case mb5=>intro w hSw;(try dsimp only at hSw);go_simp;(try with_reducible rfl)
             try simp only[Act.put,zA,zB,zC,zD,zE,zF]
             refine wt 2 ?ma7 [] ?mb8 ?mc9;case mb8=>intro w hSw;(try dsimp only at hSw);go_simp;(try with_reducible rfl)
             try simp only[Act.put,zA,zB,zC,zD,zE,zF]
             refine wt 3 ?ma10 [] ?mb11 ?mc12;case mb11=>intro w hSw;(try dsimp only at hSw);go_simp;(try with_reducible rfl)
             try simp only[Act.put,zA,zB,zC,zD,zE,zF]
             refine yA (rs:=[4]) (by kernel_rfl) (by simp) ?_;refine AllReadyE.cons rfl (fun K hK=>?mst13) AllReadyE.nil;go_simp;refine(xG p (KK+2) n2 w4.drew HSD.out.draw.src (by omega) (by omega)).mono ?_;rintro e w5 ⟨y,rfl,hy,hd5⟩;have HS5:=zh (HSD.out.drawn hd5 hpw);have HQ5:=zh (Blk.drawn HQD.out hd5 (by omega));have hyn:y<n2:=by omega
             have hyi:(y:Int)<(n2:Int):=by omega
             have HOD:=zh (HCT.out y hyn);clear hd5 hy;have q3:=HQ5.out.cell 3;have qf3:=HQ5.out.frozen 3;have qz3:=HQ5.out.lt;simp at q3;try go_wp2_with fail
             refine hK.out _ _ (fun _=>?mke14) (fun hHeld'=>?mrs15);case mke14=>exact⟨(HS5.out.tab.cell 2).trans rfl,HSZ.out _ _ HS5.out.draw⟩
             have hHeld:=hHeld' (by decide);clear hHeld';clear hK K;try simp only[Act.put,zA,zB,zC,zD,zE,zF]
             refine wt 5 ?ma16 [] ?mb17 ?mc18;case mb17=>intro w hSw;(try dsimp only at hSw);go_simp;(try with_reducible rfl)
             try simp only[Act.put,zA,zB,zC,zD,zE,zF]
             refine wt 6 ?ma19 [] ?mb20 ?mc21;case mb20=>intro w hSw;(try dsimp only at hSw);go_simp;(try with_reducible rfl)
             try simp only[Act.put,zA,zB,zC,zD,zE,zF]
             refine wt 7 ?ma22 [] ?mb23 ?mc24;case mb23=>intro w hSw;(try dsimp only at hSw);go_simp;(try with_reducible rfl)
             try simp only[Act.put,zA,zB,zC,zD,zE,zF]
             refine yA (rs:=[8]) (by kernel_rfl) (by simp) ?_;refine AllReadyE.cons rfl (fun K hK=>?mst25) AllReadyE.nil;go_simp;refine hK.out _ _ (fun h=>absurd rfl h) (fun hHeld=>?mrs27);clear hK K;try simp only[Act.put,zA,zB,zC,zD,zE,zF]
             refine vE (by kernel_rfl) ?_ _;obtain⟨W6,hW6⟩:∃W6,W6=w5.setCell ⟨w.heap.size+1+1,3,none⟩ (.string (ct y)):=⟨_,rfl⟩;have HS6:=zh ((HS5.out.side HQ5.out (by omega) hpw (Nat.le_refl _) 3 (.string (ct y))).ord_ (ct y));have HQ6:=zh (HQ5.out.set_ 3 (.string (ct y)));rw[←hW6]at HS6 HQ6 ⊢;clear hW6 HS5 HQ5 q3 qf3 qz3 hHeld HSD HQD HS4 HQ4;have HK6:=zh (wU p (KK+2+2) 2 W6 HS6.out.draw.src (by omega) (by omega));go_wp2_with fail;refine HK6.out.mono ?_;rintro e w7 ⟨b2,rfl,hd7⟩;have HS7:=zh (HS6.out.drawn hd7 hpw);have HQ7:=zh (Blk.drawn HQ6.out hd7 (by omega));clear hd7 HK6 HS6 HQ6;have q4:=HQ7.out.cell 4;have qf4:=HQ7.out.frozen 4;have qz4:=HQ7.out.lt;simp at q4;obtain⟨W8,hW8⟩:∃W8,W8=w7.setCell ⟨w.heap.size+1+1,4,none⟩ (.bool b2):=⟨_,rfl⟩;have HS5:=zh (((HS7.out.side HQ7.out (by omega) hpw (Nat.le_refl _) 4 (.bool b2)).desc_ b2).mono (show KK+2+2+2≤KK+8 by omega));have HQ5:=zh (HQ7.out.set_ 4 (.bool b2));rw[←hW8]at HS5 HQ5;clear HS7 HQ7;go_wp2_with fail;rw[←hW8];clear hW8 q4 qf4 qz4;have HK5:=zh (wU p (KK+8) 3 _ HS5.out.draw.src (by omega) (by omega));go_wp2_with fail;refine HK5.out.mono ?_;rintro e w6 ⟨b3,rfl,hd6⟩;have HS6:=zh (HS5.out.drawn hd6 hpw);have HQ6:=zh (Blk.drawn HQ5.out hd6 (by omega));clear hd6 HK5 HS5 HQ5
             cases b3 with
             | false =>
               have pq0:=HQ6.out.cell 0;have pq1:=HQ6.out.cell 1;have pq2:=HQ6.out.cell 2;have pq3:=HQ6.out.cell 3;have pq4:=HQ6.out.cell 4;have pq5:=HQ6.out.cell 5;have r0:=HS6.out.res.cell 0;have r1:=HS6.out.res.cell 1;have r2:=HS6.out.res.cell 2;have r3:=HS6.out.res.cell 3;have r4:=HS6.out.res.cell 4;have r5:=HS6.out.res.cell 5;have rf0:=HS6.out.res.frozen 0;have rf1:=HS6.out.res.frozen 1;have rf2:=HS6.out.res.frozen 2;have rf3:=HS6.out.res.frozen 3;have rf4:=HS6.out.res.frozen 4;have rf5:=HS6.out.res.frozen 5;have rz:=HS6.out.res.lt;have pz:=HQ6.out.lt;have hrq:w.heap.size+1≠w.heap.size+1+1:=by omega
               simp at pq0 pq1 pq2 pq3 pq4 pq5 r0 r1 r2 r3 r4 r5;go_wp2_with fail;have HE:=zh (zQ0 HS6.out hpw (Nat.le_refl _));refine bodyPost_ret (v:=.agg #[.string nm,.slice AV ss.length cv,.slice AU fs.length cu,.string (ct y),.bool b2,.int .i64 0]) (by simp[results,Tryz.results98,go_sem,r0,r1,r2,r3,r4,r5]) rfl ?_;exact⟨_,_,_,_,_,_,_,rfl,(HE.out _ _ _ _ _ _).1,⟨HNM.out,⟨HLK.out,HZ.out⟩,⟨HFM.out,HFZ.out⟩,HOD.out⟩,(HE.out _ _ _ _ _ _).2.mono (by have:=HKK.out;omega)⟩
             | true =>
               have HK7:=zh (xG p (KK+8+2) 4 w6 HS6.out.draw.src (by omega) (by omega));go_wp2_with fail;refine HK7.out.mono ?_;rintro e w7 ⟨x4,rfl,hx4,hd7⟩;have HS7:=zh (HS6.out.drawn hd7 hpw);have HQ7:=zh (Blk.drawn HQ6.out hd7 (by omega));have hx43:x4≤3:=by omega
               clear hd7 HK7 HS6 HQ6 hx4;have qf5:=HQ7.out.frozen 5;have HS8:=zh ((HS7.out.side HQ7.out (by omega) hpw (Nat.le_refl _) 5 (.int .i64 (1+(x4:Int)))).lim_ (1+(x4:Int)));have pq0:=HQ7.out.cell 0;have pq1:=HQ7.out.cell 1;have pq2:=HQ7.out.cell 2;have pq3:=HQ7.out.cell 3;have pq4:=HQ7.out.cell 4;have pq5:=HQ7.out.cell 5;have r0:=HS7.out.res.cell 0;have r1:=HS7.out.res.cell 1;have r2:=HS7.out.res.cell 2;have r3:=HS7.out.res.cell 3;have r4:=HS7.out.res.cell 4;have r5:=HS7.out.res.cell 5;have rf0:=HS7.out.res.frozen 0;have rf1:=HS7.out.res.frozen 1;have rf2:=HS7.out.res.frozen 2;have rf3:=HS7.out.res.frozen 3;have rf4:=HS7.out.res.frozen 4;have rf5:=HS7.out.res.frozen 5;have rz:=HS7.out.res.lt;have pz:=HQ7.out.lt;have hrq:w.heap.size+1≠w.heap.size+1+1:=by omega
               simp at pq0 pq1 pq2 pq3 pq4 pq5 r0 r1 r2 r3 r4 r5;go_wp2_with fail;have HE:=zh (zQ0 HS8.out hpw (Nat.le_refl _));refine bodyPost_ret (v:=.agg #[.string nm,.slice AV ss.length cv,.slice AU fs.length cu,.string (ct y),.bool b2,.int .i64 (1+(x4:Int))]) (by simp[results,Tryz.results98,go_sem,r0,r1,r2,r3,r4,r5]) rfl ?_;exact⟨_,_,_,_,_,_,_,rfl,(HE.out _ _ _ _ _ _).1,⟨HNM.out,⟨HLK.out,HZ.out⟩,⟨HFM.out,HFZ.out⟩,HOD.out⟩,(HE.out _ _ _ _ _ _).2.mono (by have:=HKK.out;omega)⟩
end Go.Proofs.YtfpcjhajjejpdaaGreatDoor
