import Derived.Test.YtgmaamnofhmecaaGreatDoorV17
import Derived.Test.YtgmaamnofhmecaaGreatDoorV16
import Derived.Test.YtgmaamnofhmecaaGreatDoorV09
import Derived.Deep.AppendLies
import Derived.Deep.RegionLaw
set_option maxHeartbeats 4000000
open Go.Lib renaming hid → zh
namespace Go.Proofs.YtgmaamnofhmecaaGreatDoor
open Go.RowKit
def vD (cols:List ByteArray) (key val:ByteArray):List ByteArray:=key::(if 1<cols.length then zZ0 94 val else [])
def yF (cols:List ByteArray) (key val:ByteArray):Option (List ByteArray) :=
 if ((decide (cols.length=1)&&decide (val≠⟨#[]⟩))||!vC cols (vD cols key val))=true then none else some (vD cols key val)
def zAo (o:Option (List ByteArray)):Int:=if o.isSome=true then 0 else 14
def zJm (o:Option (List ByteArray)) (w:World) (e:Ending) (w':World):Prop:=∃v,e=.returned (.tuple #[.agg #[v],.int .i64 (zAo o)])∧Own.SubO w' w.heap.size v (o.getD [])∧Below w.heap.size w w'
theorem zCh (c:UInt8) (s:ByteArray):(zZ0 c s).length≤s.size+1∧∀x∈zZ0 c s,x.size≤s.size:=by
 unfold zZ0;constructor
 · rw[List.length_map];have:=zHm c s.data.toList;rw[←Lib.size_eq]at this;exact this
 · intro x hx;obtain⟨l,hl,rfl⟩:=List.mem_map.1 hx;have:=zEH c s.data.toList l hl;rw[←Lib.size_eq]at this;rw[Lib.size_eq];simpa using this
theorem uV (cols:List ByteArray) (key val:ByteArray) (hk:key.size≤1048576) (hv:val.size≤64):wL (vD cols key val):=by
 unfold vD;have h:=zCh 94 val;split
 · refine⟨by simp;omega,fun s hs=>?_⟩;rcases List.mem_cons.1 hs with rfl | hs
   · exact hk
   · have:=h.2 s hs;omega
 · exact⟨by simp,fun s hs=>by rw[List.mem_singleton.1 hs];exact hk⟩
theorem zJk (c:UInt8) (s:ByteArray):0<(zZ0 c s).length:=by
 unfold zZ0;rw[List.length_map];exact List.length_pos_iff.2 (zGc _ _)
theorem zAp (ss:List ByteArray):∀u∈ss.map Value.string,u.oneCell'=true:=by
 intro u hu;obtain⟨s,_,rfl⟩:=List.mem_map.1 hu;rfl
set_option maxRecDepth 100000 in
theorem zBU (b0 b1 b2 b3:Value) (b:TableD) (key val:ByteArray) (w:World) (hb:TableR w w.heap.size b0 b1 b2 b3 b) (hpos:0<b.cols.length) (hn5:b.cols.length≤5) (hk:key.size≤1048576) (hv:val.size≤64) :
 Calls Tryz.prog 137 #[.agg #[b0,b1,b2,b3],.string key,.string val] w (zJm (yF b.cols key val) w):=by
 obtain⟨i0,hi,hz0,hz1,hz2⟩:=info_parts zCz;have HT:=zh (fun W (hW:Below w.heap.size w W)=>hb.later hW);have HRS:=zh (uV b.cols key val hk hv);have HKC:=zh (fun W=>zIg val W (by omega));have HKR:=zh (fun W (hW:Below w.heap.size w W) r0 (hr:RowR W W.heap.size r0 (vD b.cols key val))=>zCe b0 b1 b2 b3 r0 b (vD b.cols key val) W (hb.later hW) hr (uV b.cols key val hk hv) hpos);have HU:Hid (yF b.cols key val=(if ((decide (b.cols.length=1)&&decide (val≠⟨#[]⟩))||!vC b.cols (vD b.cols key val))=true then none else some (vD b.cols key val))):=rfl;have HCL:=zh (zCh 94 val);have HCN:=zh (zJk 94 val);obtain⟨rfl,rfl,⟨A2,n2,p2,rfl,s2,k2⟩,⟨A3,n3,p3,rfl,s3,k3⟩⟩:=hb;have hl2:=s2.1;have HRV:Hid (vD b.cols key val=key::(if 1<n2 then zZ0 94 val else [])):=by unfold Hid vD;rw[hl2]
 rw[hl2]at hpos hn5;rw[hl2]at HU;clear s2 s3 hl2;generalize yF b.cols key val=U at *;generalize vC b.cols (vD b.cols key val)=rb at *;generalize vD b.cols key val=ROW at *;generalize b.name=nm at *;generalize b.glob=gl at *;generalize zZ0 94 val=CS at *;have HB0:=zh (zCi w (.cells #[.string nm,.string gl,.slice A2 n2 p2,.slice A3 n3 p3] 29) (.cells #[.slice none 0 0] 31) (.cells #[.string key] 9) (.cells #[.slice (some ⟨w.heap.size+1+1,0,none⟩) 1 1] 31));have HX0:=zh (zDf w (.cells #[.string nm,.string gl,.slice A2 n2 p2,.slice A3 n3 p3] 29) (.cells #[.slice none 0 0] 31) (.cells #[.string key] 9) (.cells #[.slice (some ⟨w.heap.size+1+1,0,none⟩) 1 1] 31));have HX1:=zh (zDe w (.cells #[.string nm,.string gl,.slice A2 n2 p2,.slice A3 n3 p3] 29) (.cells #[.slice none 0 0] 31) (.cells #[.string key] 9) (.cells #[.slice (some ⟨w.heap.size+1+1,0,none⟩) 1 1] 31));have HX2:=zh (zDd w (.cells #[.string nm,.string gl,.slice A2 n2 p2,.slice A3 n3 p3] 29) (.cells #[.slice none 0 0] 31) (.cells #[.string key] 9) (.cells #[.slice (some ⟨w.heap.size+1+1,0,none⟩) 1 1] 31));have HX3:=zh (zDc w (.cells #[.string nm,.string gl,.slice A2 n2 p2,.slice A3 n3 p3] 29) (.cells #[.slice none 0 0] 31) (.cells #[.string key] 9) (.cells #[.slice (some ⟨w.heap.size+1+1,0,none⟩) 1 1] 31));go_enter Tryz.func137,Tryz.ntmps137;by_cases h1:n2=1
 · subst h1;have HRV2:Hid (ROW=[key]):=by unfold Hid;rw[HRV.out,if_neg (by omega)]
   clear HRV;by_cases hve:val=⟨#[]⟩
   · have HE:Hid (U=if rb=true then some ROW else none):=by unfold Hid;rw[HU.out,decide_eq_false (show ¬(val≠⟨#[]⟩) from fun h=>h hve)];cases rb <;> simp
     have HSub:Hid (Own.SubO ((((w.alloc (.cells #[.string nm,.string gl,.slice A2 1 p2,.slice A3 n3 p3] 29)).alloc (.cells #[.slice none 0 0] 31)).alloc (.cells #[.string key] 9)).alloc (.cells #[.slice (some ⟨w.heap.size+1+1,0,none⟩) 1 1] 31)) w.heap.size (.slice (some ⟨w.heap.size+1+1,0,none⟩) 1 1) [key]) :=
      Own.sub_of_blk (ss:=[key]) HX2.out (by omega) (by simp[maxLen])
     subst hve;clear HU;go_wp2_with fail;refine(HKR.out _ HB0.out _ (by obtain⟨A,c,e,hc,hs⟩:=HSub.out.strs;rw[HRV2.out];exact⟨A,_,c,e,hs,hc⟩)).mono ?_;rintro e w1 ⟨rfl,hb1⟩;have HB1:=zh (HB0.out.later hb1);have HY1:=zh (Blk.later HX1.out hb1 (by first | (simp;done) | (simp;omega)));have HY3:=zh (Blk.later HX3.out hb1 (by first | (simp;done) | (simp;omega)));have HS1:=zh (Own.own_later HSub.out hb1);have p1:=HY1.out.cell;have f1:=HY1.out.frozen;have z1:=HY1.out.lt;have p3':=HY3.out.cell;have z3:=HY3.out.lt;clear hb1;cases rb
     · have HE2:Hid (U=none):=by unfold Hid;rw[HE.out];rfl
       go_wp2_with fail;refine bodyPost_ret (v:=.tuple #[.agg #[.slice none 0 0],.int .i64 14]) (by simp[results,Tryz.results137,go_sem,p1]) rfl ?_;rw[HE2.out];exact⟨_,rfl,Own.sub_nil _ _,HB1.out.setCell (by simp) _⟩
     · have HE2:Hid (U=some [key]):=by unfold Hid;rw[HE.out,HRV2.out];rfl
       go_wp2_with fail;refine bodyPost_ret (v:=.tuple #[.agg #[.slice (some ⟨w.heap.size+1+1,0,none⟩) 1 1],.int .i64 0]) (by simp[results,Tryz.results137,go_sem,p1]) rfl ?_;rw[HE2.out];refine⟨_,rfl,?_,HB1.out.setCell (by simp) _⟩;exact World.ownsRow.kept HS1.out (row:=some (w.heap.size+1)) (Own.grown_set _ _ _ _) (.inr (by simp[Value.ownBlock]))
   · have HE:Hid (U=none):=by unfold Hid;rw[HU.out,decide_eq_true hve];rfl
     have hbe:=vE hve;have hbn:=wY hve;have hbe3:=zBp hve;have p1:=Blk.cell HX1.out;have f1:=Blk.frozen HX1.out;have z1:=Blk.lt HX1.out;clear hve HU;go_wp2_with fail;refine bodyPost_ret (v:=.tuple #[.agg #[.slice none 0 0],.int .i64 14]) (by simp[results,Tryz.results137,go_sem,p1]) rfl ?_;rw[HE.out];first | exact⟨_,rfl,Own.sub_nil _ _,HB0.out⟩ | exact⟨_,rfl,Own.sub_nil _ _,HB0.out.setCell (by simp) _⟩
 · have hgt:1<n2:=by omega
   have HRV2:Hid (ROW=key::CS):=by unfold Hid;rw[HRV.out,if_pos hgt]
   have HE:Hid (U=if rb=true then some ROW else none):=by unfold Hid;rw[HU.out,decide_eq_false h1];cases rb <;> simp
   have hg1:(1:Int)<(n2:Int):=by omega
   have hne1:((n2:Int)==1)=false:=by rw[beq_eq_false_iff_ne];omega
   have hne2:(n2==1)=false:=by rw[beq_eq_false_iff_ne];omega
   clear HRV HU h1;have p3':=Blk.cell HX3.out 0;have f3:=Blk.frozen HX3.out 0;have z3:=Blk.lt HX3.out;simp at p3';have hsz0:w.heap.size+1+1+1+1=((((w.alloc (.cells #[.string nm,.string gl,.slice A2 n2 p2,.slice A3 n3 p3] 29)).alloc (.cells #[.slice none 0 0] 31)).alloc (.cells #[.string key] 9)).alloc (.cells #[.slice (some ⟨w.heap.size+1+1,0,none⟩) 1 1] 31)).heap.size:=by simp
   have HRA0:Hid (Own.SubO ((((w.alloc (.cells #[.string nm,.string gl,.slice A2 n2 p2,.slice A3 n3 p3] 29)).alloc (.cells #[.slice none 0 0] 31)).alloc (.cells #[.string key] 9)).alloc (.cells #[.slice (some ⟨w.heap.size+1+1,0,none⟩) 1 1] 31)) w.heap.size (.slice (some ⟨w.heap.size+1+1,0,none⟩) 1 1) [key]) :=
    Own.sub_of_blk (ss:=[key]) HX2.out (by omega) (by simp[maxLen])
   go_wp2_with fail
   go_region_law (first
    | (refine step_append_lies _ (by rfl) _ _ _ (by rfl) w.heap.size 9 i0 _ 1 16 Tryz.underlying27 hi hz0 hz1 hz2 rfl (by omega) (.slice (some ⟨w.heap.size+1+1,0,none⟩) 1 1) 1 [.string key] (by rfl) (by exact HRA.out)
        ⟨gc,0,none⟩ CS.length cc (CS.map Value.string) (by rfl) (by simp) (by exact HCC.out) (by exact zAp CS)
        (by have:=HCN.out;omega) (by unfold maxLen;have:=HCL.out.1;omega) (by have:=HCL.out.1;omega) (by omega) w4.heap.size rfl ?_
       intro gg cap' w5 hown5 hgrow5 hat hlt2;have hbg:=(Blk.later HX3.out HB4.out (by omega)).grown hgrow5 (by simp[Value.ownBlock]);have p5:=hbg.cell;have f5:=hbg.frozen;have z5:=hbg.lt;have HBG:=zh hbg;have HOW:=zh hown5;have HGR:=zh hgrow5
       clear hbg hown5 hgrow5)
    | (go_simp
       go_at_call 206;refine(HKC.out _).mono ?_;rintro e w4 ⟨v',rfl,hsub,hb4⟩;have HB4:=zh (zD0 hb4);obtain⟨AC,cc,rfl,hcc,hmc,hac⟩:=Own.own_slice hsub;obtain⟨gc,rfl,hgc,hgcb⟩:=hac HCN.out;have HCC:=zh (World.ownsRow.cells (g:=gc) hsub rfl);clear hsub hb4;have q2:=(Blk.later HX3.out HB4.out (by omega)).cell 0;simp at q2;have z6:=(Blk.later HX3.out HB4.out (by omega)).lt;have hsz6:=HB4.out.size
       have HRA:=zh (Own.own_later HRA0.out HB4.out)))
   all_goals
    have hgn:gg≠w.heap.size+1+1+1:=by
     rcases hat with h | h
     · simp[Value.ownBlock]at h;omega
     · omega
    have hgn1:gg≠w.heap.size+1:=by
     rcases hat with h | h
     · simp[Value.ownBlock]at h;omega
     · omega
    have HS5:Hid (Own.SubO (w5.setCell ⟨w.heap.size+1+1+1,0,none⟩ (.slice (some ⟨gg,0,none⟩) (1+CS.length) cap')) w.heap.size (.slice (some ⟨gg,0,none⟩) (1+CS.length) cap') (key::CS)):=by have h:=World.ownsRow.kept HOW.out (row:=some (w.heap.size+1+1+1)) (Own.grown_set w5 (w.heap.size+1+1+1) 0 (.slice (some ⟨gg,0,none⟩) (1+CS.length) cap')) (.inr (by simpa [Value.ownBlock] using hgn));unfold Hid Own.SubO;rw[List.length_cons,Nat.add_comm CS.length 1];exact h
    have HB5:=zh (((HB0.out.later HB4.out).grown HGR.out (by omega) (fun g hg=>by simp[Value.ownBlock]at hg;omega)).setCell (p:=⟨w.heap.size+1+1+1,0,none⟩) (by simp;omega) (.slice (some ⟨gg,0,none⟩) (1+CS.length) cap'));have HZ0:=zh (((Blk.later HX0.out HB4.out (by omega)).grown HGR.out (by simp[Value.ownBlock];omega)).far (p:=⟨w.heap.size+1+1+1,0,none⟩) (by simp;omega) (.slice (some ⟨gg,0,none⟩) (1+CS.length) cap'));have HZ1:=zh (((Blk.later HX1.out HB4.out (by omega)).grown HGR.out (by simp[Value.ownBlock])).far (p:=⟨w.heap.size+1+1+1,0,none⟩) (by simp) (.slice (some ⟨gg,0,none⟩) (1+CS.length) cap'));have HZ3:=zh (HBG.out.set_ 0 (.slice (some ⟨gg,0,none⟩) (1+CS.length) cap'));have y0:=HZ0.out.cell 0;have y1:=HZ0.out.cell 1;have y2:=HZ0.out.cell 2;have y3:=HZ0.out.cell 3;have y4:=HZ3.out.cell 0;simp at y0 y1 y2 y3 y4;obtain⟨W5,hW5⟩:∃W5,W5=w5.setCell ⟨w.heap.size+1+1+1,0,none⟩ (.slice (some ⟨gg,0,none⟩) (1+CS.length) cap'):=⟨_,rfl⟩;rw[←hW5]at HS5 HB5 HZ0 HZ1 HZ3 y0 y1 y2 y3 y4 ⊢;clear hW5 p3' f3 z3 p5 f5 z5 q2 z6 HBG HOW HGR;go_wp2_with fail;refine(HKR.out _ HB5.out _ (by obtain⟨A,c,e,hc,hs⟩:=HS5.out.strs;rw[HRV2.out];exact⟨A,_,c,e,hs,hc⟩)).mono ?_;rintro e w6 ⟨rfl,hb6⟩;have HB6:=zh (HB5.out.later hb6);have HY1:=zh (HZ1.out.later hb6 HZ1.out.lt);have HY3:=zh (HZ3.out.later hb6 HZ3.out.lt);have HS6:=zh (Own.own_later HS5.out hb6);have p1:=HY1.out.cell;have f1:=HY1.out.frozen;have z1:=HY1.out.lt;have p3':=HY3.out.cell 0;have z3:=HY3.out.lt;simp at p3';clear hb6 y0 y1 y2 y3 y4;cases rb
    · have HE2:Hid (U=none):=by unfold Hid;rw[HE.out];rfl
      go_wp2_with fail;refine bodyPost_ret (v:=.tuple #[.agg #[.slice none 0 0],.int .i64 14]) (by simp[results,Tryz.results137,go_sem,p1]) rfl ?_;rw[HE2.out];exact⟨_,rfl,Own.sub_nil _ _,HB6.out.setCell (by simp) _⟩
    · have HE2:Hid (U=some (key::CS)):=by unfold Hid;rw[HE.out,HRV2.out];rfl
      go_wp2_with fail;refine bodyPost_ret (v:=.tuple #[.agg #[(.slice (some ⟨gg,0,none⟩) (1+CS.length) cap')],.int .i64 0]) (by simp[results,Tryz.results137,go_sem,p1]) rfl ?_;rw[HE2.out];refine⟨_,rfl,?_,HB6.out.setCell (by simp) _⟩;exact World.ownsRow.kept HS6.out (row:=some (w.heap.size+1)) (Own.grown_set _ _ _ _) (.inr (by simpa [Value.ownBlock] using hgn1))
end Go.Proofs.YtgmaamnofhmecaaGreatDoor
namespace Go.Proofs.YtgmaamnofhmecaaGreatDoor
open Go.RowKit
set_option linter.unusedVariables false
theorem zGU (A A':Option Addr) (n c n' c':Nat) (ss ts:List ByteArray) (w:World) (h:Strs w w.heap.size A n ss) (h':Strs w w.heap.size A' n' ts) (hn:n≤1048576) (hn':n'≤1048576) :
 Calls Tryz.prog 139 #[.slice A n c,.slice A' n' c'] w fun e w'=>e=.returned (.bool (eqS ss ts))∧∃q,w'=w.drewN q:=by
 obtain⟨hlen,hc⟩:=h;obtain⟨hlen',hc'⟩:=h';have hE:=zCf ss ts;rw[hlen,hlen']at hE;have Hc:=zh hc;have Hlen:=zh hlen;have Hc':=zh hc';have Hlen':=zh hlen';clear hc hlen hc' hlen';by_cases hne:n=n'
 · subst hne;have HE:Hid (eqS ss ts=zG0 ss ts):=by unfold Hid;rw[←hE];simp
   clear hE;generalize eqS ss ts=R at *;go_enter Tryz.func139,Tryz.ntmps139;go_wp2_with fail;go_loopw [5] (fun i wr=>∃(k:Nat),k≤n∧i=.int .i64 k∧(∃q,wr=w.drewN q)∧Hid (zG0 ss ts=zG0 (ss.drop k) (ts.drop k))) (fun i _=>n-(intOf i).toNat);case atStart=>exact⟨0,Nat.zero_le _,rfl,⟨0,rfl⟩,rfl⟩
   case round =>
    obtain⟨k,hk,rfl,⟨q,rfl⟩,hS⟩:=hrel;by_cases hlt:k<n
    · obtain⟨b,o,rfl,hb,hcell⟩:=Hc.out (by omega);obtain⟨b',o',rfl,hb',hcell'⟩:=Hc'.out (by omega);have hck:=hcell k hlt;have hck':=hcell' k (by omega);clear hcell hcell';have HS:=zh (zFQ ss ts k (by rw[Hlen.out];exact hlt) (by rw[Hlen'.out];omega));generalize ss.getD k ByteArray.empty=s at *;generalize ts.getD k ByteArray.empty=t at *;go_wp2_with fail
      go_quiet (fail)
      go_wp2_with fail
      · go_ret;have hst:s≠t:=zKp (by assumption);exact⟨zA0 (by rw[HE.out,hS.out,HS.out,decide_eq_false hst];rfl),_,World.drewN_drewN _ _ _⟩
      · go_roundw;case rel=>have hst:s=t:=zKq (by assumption);exact⟨k+1,by omega,by go_num,⟨_,rfl⟩,by unfold Hid;rw[hS.out,HS.out,decide_eq_true hst];rfl⟩
        case measure=>simp[intOf];omega
    · go_wp2_with fail;go_ret;exact⟨zA0 (by rw[HE.out,hS.out,List.drop_of_length_le (by rw[Hlen.out];omega),zGz]),_,rfl⟩
 · have HE:Hid (false=eqS ss ts):=by unfold Hid;rw[←hE];simp[hne]
   have hb:((n:Int)==(n':Int))=false:=by rw[beq_eq_false_iff_ne];omega
   have hb2:(n==n')=false:=by rw[beq_eq_false_iff_ne];omega
   clear hE hne;go_enter Tryz.func139,Tryz.ntmps139;go_wp2_with fail;go_ret;exact⟨zA0 HE.out,0,rfl⟩
theorem zBa (A A':Option Addr) (n c n' c':Nat) (ss ts:List ByteArray) (w:World) (h:Strs w w.heap.size A n ss) (h':Strs w w.heap.size A' n' ts) (hn:n≤1048576) (hn':n'≤1048576) :
 Calls Tryz.prog 62 #[.slice A n c,.slice A' n' c'] w fun e w'=>e=.returned (.bool (eqS ss ts))∧∃q,w'=w.drewN q:=by
 have HK:=zh (zGU A A' n c n' c' ss ts w h h' hn hn');clear h h';generalize eqS ss ts=x at *;go_enter Tryz.func62,Tryz.ntmps62;go_wp2_with fail;refine HK.out.mono ?_;rintro e w1 ⟨rfl,q,rfl⟩;go_wp2_with fail;go_ret;exact⟨rfl,q,rfl⟩
set_option maxRecDepth 100000 in
theorem zGQ (A:Option Addr) (n c:Nat) (ss:List ByteArray) (w:World) (h:Strs w w.heap.size A n ss) (hn:n≤1048576) :
 Calls Tryz.prog 140 #[.slice A n c] w fun e w'=>∃A' c',e=.returned (.slice A' n c')∧n≤c'∧Own.SubO w' w.heap.size (.slice A' n c') ss∧Below w.heap.size w w':=by
 have HN:=zh h.1;obtain⟨i0,hi,hz0,hz1,hz2⟩:=info_parts zCz;have Hh:=zh (zHN h);clear h;go_enter Tryz.func140,Tryz.ntmps140;go_wp2_with (at_builtin;refine wE _ rfl (.tmp 3) (.tmp 4) 27 rfl w.heap.size 9 i0 _ 1 16 Tryz.underlying27 hi hz0 hz1 hz2 rfl (by decide) _ 0 [] rfl (World.ownsRow_lit _ _ 0 (Nat.le_refl _) (by omega) rfl) w.heap.size A n c (ss.map Value.string) rfl (Hh.out.alloc (Nat.le_refl _) _) (zAp ss) ?c1 ?c2 ?c3 ?_);case c1=>unfold maxLen;omega
 case c2=>omega
 case c3=>simp
 intro v w1 ho hg _;have HB:=zh (vS (w0:=w) (size:=1) (n:=0) (xs:=[]) (Below.new _ _) (World.ownsRow_lit _ _ 0 (Nat.le_refl _) (by omega) rfl) (Nat.le_refl _) hg);obtain⟨A',c',rfl,hc,_,_⟩:=Own.own_slice ho;have HS:=zh ho;clear ho hg;go_wp2_with fail;go_ret;exact⟨A',c',rfl,hc,by unfold Own.SubO;rw[HN.out];exact HS.out,HB.out⟩
theorem zEZ (A A':Option Addr) (n c n' c':Nat) (ss ts:List ByteArray) (w:World) (h:Strs w w.heap.size A n ss) (h':Strs w w.heap.size A' n' ts) (hn':n'≤1048576) (hc:n≤c) :
 Calls Tryz.prog 231 #[.slice A n c,.slice A' n' c'] w fun e w'=>e=.returned (.bool (zG0 ts ss))∧∃q,w'=w.drewN q:=by
 have hE:=zCo ts ss;rw[h.1,h'.1]at hE;by_cases hle:n'≤n
 · have HK:=zh (zBa A A' n' c n' c' (ss.take n') ts w (h.take n' hle) h' (by omega) hn');have HE:Hid (eqS (ss.take n') ts=zG0 ts ss):=by unfold Hid;rw[←hE];simp[hle]
   clear h h' hE;generalize eqS (ss.take n') ts=x at *;go_enter Tryz.func231,Tryz.ntmps231;go_wp2_with fail;refine HK.out.mono ?_;rintro e w1 ⟨rfl,q,rfl⟩;go_wp2_with fail;go_ret;exact⟨zA0 HE.out,q,rfl⟩
 · have HE:Hid (false=zG0 ts ss):=by unfold Hid;rw[←hE];simp[hle]
   clear h h' hE;go_enter Tryz.func231,Tryz.ntmps231;go_wp2_with fail;go_ret;exact⟨zA0 HE.out,0,rfl⟩
theorem zFw (c0 c1 c2:Value) (A:Option Addr) (n c:Nat) (d:NodeD) (nm:ByteArray) (ss:List ByteArray) (w:World) (h:NodeR w w.heap.size c0 c1 c2 d) (h':Strs w w.heap.size A n ss) (hn:n≤1048576) :
 Calls Tryz.prog 180 #[.agg #[c0,c1,c2],.string nm,.slice A n c] w fun e w'=>e=.returned (.bool (inN nm ss d))∧Below w.heap.size w w':=by
 obtain⟨rfl,⟨A1,n1,p1,rfl,s1,k1⟩,rfl⟩:=h;have HR:Hid (inN nm ss d=(decide (d.name=nm)&&zG0 ss d.subs)):=rfl;have HK:=zh (zEZ A1 A n1 p1 n c d.subs ss (w.alloc (.cells #[.string d.name,.slice A1 n1 p1,.string d.val] 102)) (s1.later (Below.new _ _)) (h'.later (Below.new _ _)) hn k1);clear s1 h';generalize inN nm ss d=R at *;generalize zG0 ss d.subs=x at *;generalize d.name=dn at *;generalize d.val=dv at *;by_cases he:dn=nm
 · subst he;have HE:Hid (R=x):=by unfold Hid;rw[HR.out];simp
   clear HR;go_enter Tryz.func180,Tryz.ntmps180;go_wp2_with fail;refine HK.out.mono ?_;rintro e w1 ⟨rfl,q,rfl⟩;go_wp2_with fail;go_ret;exact⟨zA0 HE.out.symm,yE (Below.new _ _) q⟩
 · have HE:Hid (R=false):=by unfold Hid;rw[HR.out];simp[he]
   have hb:=vE he;clear HR HK he;go_enter Tryz.func180,Tryz.ntmps180;go_wp2_with fail;go_ret;exact⟨zA0 HE.out.symm,Below.new _ _⟩
end Go.Proofs.YtgmaamnofhmecaaGreatDoor
namespace Go.Proofs.YtgmaamnofhmecaaGreatDoor
open Go.RowKit
set_option linter.unusedVariables false
set_option maxRecDepth 100000 in
theorem zAN (A:Option Addr) (n c:Nat) (fs:List NodeD) (w:World) (h:Nodes w w.heap.size A n fs) (hs:wB fs) :
 Calls Tryz.prog 65 #[.slice A n c] w (zKd fs w):=by
 obtain⟨i0,hi,hz0,hz1,hz2⟩:=info_parts zAy;have Hh:=zh h;have Hlen:=zh h.1;have Hsm:=zh hs.2;have hn:n≤1048576:=by rw[←h.1];exact hs.1
 clear h hs;go_enter Tryz.func65,Tryz.ntmps65;go_wp2_with fail;go_loopw [3,4] (fun v i wr=>∃(k:Nat),k≤n∧i=.int .i64 k∧NodesO wr w.heap.size v (fs.take k)∧Below w.heap.size w wr) (fun _ i _=>n-(intOf i).toNat);case atStart=>exact⟨0,Nat.zero_le _,rfl,zIb w _ (Nat.le_refl _),Below.new _ _⟩
 case round =>
  obtain⟨k,hk,rfl,⟨vs,hown⟩,hb⟩:=hrel;have HB:=zh hb;obtain⟨g,cap,rfl,_,_,_⟩:=Own.own_slice hown.row;have HO:=zh hown;clear hb hown;by_cases hlt:k<n
  · have hl:k<fs.length:=by rw[Hlen.out];exact hlt
    obtain⟨bb,o,rfl,hbB,hcn⟩:=(Hh.out.later HB.out).2 (by omega);obtain⟨c0,c1,c2,k0,k1,k2,hr⟩:=hcn k hlt;clear hcn;have hsd:=Hsm.out _ (xD fs k hl);have HT:Hid (fs.take (k+1)=fs.take k++[fs.getD k default]):=by unfold Hid;rw[List.take_succ_eq_append_getElem hl,List.getD_eq_getElem?_getD,List.getElem?_eq_getElem hl,Option.getD_some]
    have htl:(fs.take k).length=k:=by rw[List.length_take];omega
    rw[htl];have hrw:=HO.out.row;rw[htl]at hrw;have HRW:=zh hrw;have HTL:=zh htl;clear htl hrw;generalize fs.getD k default=d at *;obtain⟨rfl,⟨A1,n1,p1,rfl,s1,q1⟩,rfl⟩:=hr;have hn1:n1≤1048576:=by rw[←s1.1];exact hsd.2.1.1
    have HKS:=zh (fun W (hW:Below wr.heap.size wr W)=>zGQ A1 n1 p1 d.subs W (s1.later hW) hn1);generalize hdn:d.name=dn at *;generalize hdv:d.val=dv at *;have HDN:=zh hdn;have HDV:=zh hdv;clear s1 hsd hdn hdv;go_wp2_with fail
    go_region_law (first
     | (refine step_append_lies _ (by rfl) _ _ _ (by rfl) w.heap.size 102 i0 _ 3 56 Tryz.underlying24 hi hz0 hz1 hz2 rfl (by omega) (.slice g k cap) k (Own.flat zGG (fs.take k) vs) (by rfl) (by exact HRA.out)
         ⟨w4.heap.size,0,none⟩ 1 1 [.string dn,.slice A2 n1 c2,.string dv] (by rfl) (by rfl) (by exact zV0 w4 #[.string dn,.slice A2 n1 c2,.string dv] _) (by simp[Value.oneCell'])
         (by omega) (by unfold maxLen;omega) (by omega) (by simp;omega) (w4.heap.size+1) (by simp) ?_
        intro gg cap' w5 hown5 hgrow5 hat hlt2;have HOW:=zh hown5;have HGR:=zh hgrow5
        clear hown5 hgrow5)
     | (go_simp
        go_at_call 140;refine(HKS.out _ (by exact(Below.refl _ _).drew)).mono ?_;rintro e w4 ⟨A2,c2,rfl,hq2,hs2,hb4'⟩;have hb4:=zD0 hb4';have HS2:=zh hs2;have HB4:=zh hb4;have j0:=cell_later hb4 k0;have j2:=cell_later hb4 k2;have hsz4:=hb4.size;have hsz0:=HB.out.size;have HRA:=zh (Own.own_later (Own.own_later HRW.out hb4) (Below.new w4 (.cells #[.string dn,.slice A2 n1 c2,.string dv] 102)))
        clear hb4 hb4' hs2))
    all_goals
     have HN4:=zh (HB4.out.later (Below.new w4 (.cells #[.string dn,.slice A2 n1 c2,.string dv] 102)));have HN5:Hid (Below w.heap.size w w5):=((HB.out.later HN4.out)).grown HGR.out (by simp;omega) (fun g' hg'=>(World.ownsRow.lt HRA.out g' hg').1);have HO5:Hid (Own.OwnL zGG w5 w.heap.size 102 (.slice (some ⟨gg,0,none⟩) (k+1) cap') (fs.take (k+1)) (vs++[.slice A2 n1 c2])):=by unfold Hid;rw[HT.out];refine Own.OwnL.snoc (HO.out.later HN4.out) (Own.own_later (Own.own_base HS2.out (show w.heap.size≤wr.heap.size by omega)) (Below.new _ _)) (HO.out.fresh HS2.out (by simp)) ?_ (by rw[HTL.out];exact HGR.out) (by decide);rw[HTL.out];have hx:=HOW.out;rw[←HDN.out,←HDV.out]at hx;exact hx
     clear j0 j2 k0 k1 k2;go_wp2_with fail;go_roundw;case rel=>exact⟨k+1,by omega,by go_num,⟨_,HO5.out⟩,HN5.out⟩
     case measure=>simp[intOf];omega
  · go_wp2_with fail;go_ret;have ht:fs.take k=fs:=List.take_of_length_le (by rw[Hlen.out];omega);have hx:Own.OwnL zGG wr w.heap.size 102 (.slice g (fs.take k).length cap) fs vs:=by have h2:=HO.out;generalize (Value.slice g (fs.take k).length cap)=V at h2 ⊢;rw[ht]at h2;exact h2
    exact⟨_,rfl,⟨vs,hx⟩,HB.out⟩
end Go.Proofs.YtgmaamnofhmecaaGreatDoor
