import Derived.Test.YtgmaamnofhmecaaGreatDoorV23
import Derived.Test.YtgmaamnofhmecaaGreatDoorV25
import Derived.Test.YtgmaamnofhmecaaGreatDoorV13
import Derived.Lib.AppendZerosOnto
set_option maxHeartbeats 8000000
open Go.Lib renaming hid → zh
namespace Go.Proofs.YtgmaamnofhmecaaGreatDoor
open Go.RowKit
set_option linter.unusedVariables false
theorem zKB {w:World} {base g cap n:Nat} {e:TypeId} {size:Nat} {xs:List Value} (h:w.ownsRow base e size (.slice (some ⟨g,0,none⟩) n cap) n xs):w.ownsRow base e size (.slice (some ⟨g,0,none⟩) 0 cap) 0 []:=by
 obtain⟨_,h | ⟨g',cap',cur,hv,hb,hw,hn,hm,hs,ht⟩⟩:=h
 · exact absurd h.1 (by simp)
 · injection hv with h1 h2 h3;injection h1 with h1;injection h1 with h1;subst h1 h3;exact⟨by simp,.inr ⟨g,cap,cur,rfl,hb,hw,Nat.zero_le _,hm,hs,by simp⟩⟩
set_option maxRecDepth 100000 in
theorem zHG (n:Nat) (w:World) (hn:0<n) (hm:n≤100000) :
 Calls Tryz.prog 132 #[.slice none 0 0,.int .i64 n] w fun e w'=>∃v,e=.returned v∧w'.ownsRow w.heap.size 88 4 v 0 []∧Below w.heap.size w w':=by
 obtain⟨i0,hi0,hz0,hz1,hz2⟩:=info_parts uT;have h1:¬((n:Int)<0):=by omega
 have h2:wrap64 ((n:Int))=(n:Int):=by unfold wrap64;omega
 have h4:(n:Int)>0:=by omega
 have hbig:n*i0.bytes≤140737488355328:=by rw[hz2];omega
 obtain⟨Gc,hG⟩:∃Gc,Gc=grownCap w n 0 88:=⟨_,rfl⟩;have hGn:n≤Gc:=by rw[hG];exact grownCap_ge w _ _ _
 have hGm:Gc≤maxLen:=by rw[hG];exact grownCap_le_maxLen w n 0 88 (by unfold maxLen;omega)
 obtain⟨Z,hZ⟩:∃Z:Array Value,Z=(([]:List Value).toArray++Builtin.zeroCells (Value.agg #[.int .i64 0,.string ByteArray.empty,.slice none 0 0,.string ByteArray.empty]).cells n++Builtin.zeroCells (Value.agg #[.int .i64 0,.string ByteArray.empty,.slice none 0 0,.string ByteArray.empty]).cells (Gc-n)):=⟨_,rfl⟩;have hZs:Z.size=Gc*4:=by rw[hZ];simp[Builtin.zeroCells,Value.cells];omega
 have hrz:∀ty,(Builtin.append_ #[34,3] ty #[.slice none 0 0,.int .i64 (n:Int)]).run Tryz.prog w=.ok (.slice (some ⟨w.heap.size,0,none⟩) n Gc) (w.drew.alloc (.cells Z 88)):=fun ty=>by have h:=Lib.run_append_grow_zeros w 34 3 ty 88 i0 _ .i64 .i64 Tryz.underlying34 Tryz.underlying3 hi0 hz0 none 0 0 [] (run_firstCells_none w.drew i0.size 0 0 0) n hn (by omega) (by omega) (by omega) (by omega) (by rw[Nat.zero_add];exact growslice_fits (by omega) hbig);rw[Nat.zero_add,←hG,←hZ]at h;exact h
 have HOW:Hid ((w.drew.alloc (.cells Z 88)).ownsRow w.heap.size 88 4 (.slice (some ⟨w.heap.size,0,none⟩) 0 Gc) 0 []):=by have h:=World.ownsRow_lit (base:=w.heap.size) (e:=88) (size:=4) w.drew Z Gc (Nat.le_refl _) hGm hZs;exact zKB h
 clear hG hZ hZs;have hGi:(0:Int)≤(Gc:Int):=by omega
 go_enter Tryz.func132,Tryz.ntmps132;go_wp2_with (at_builtin;refine Lib.wpList_append_run _ rfl _ _ _ _ rfl _ _ rfl rfl _ _ (hrz _) ?_)
 all_goals
  go_ret;exact⟨_,rfl,HOW.out,((Below.refl _ _).drew).later (Below.new _ _)⟩
structure PartD where
 A:Option Addr
 n:Nat
 c:Nat
 xs:List Value
deriving Inhabited
def xU:List PartD→Nat
 | []=>0
 | p::r=>p.n+xU r
def zCM:List PartD→List Value
 | []=>[]
 | p::r=>p.xs++zCM r
theorem zGw:∀(a b:List PartD),xU (a++b)=xU a+xU b
 | [],b=>by simp[xU]
 | p::r,b=>by rw[List.cons_append,xU,xU,zGw r b];omega
theorem zHx:∀(a b:List PartD),zCM (a++b)=zCM a++zCM b
 | [],b=>rfl
 | p::r,b=>by rw[List.cons_append,zCM,zCM,zHx r b,List.append_assoc]
theorem zFs (l:List PartD) (k:Nat) (h:k<l.length):xU (l.take (k+1))=xU (l.take k)+(l.getD k default).n∧zCM (l.take (k+1))=zCM (l.take k)++(l.getD k default).xs:=by
 rw[List.take_succ_eq_append_getElem h,zGw,zHx,List.getD_eq_getElem?_getD,List.getElem?_eq_getElem h];simp[xU,zCM]
theorem zIO:∀(l:List PartD),(∀p∈l,p.n≤1000)→xU l≤1000*l.length
 | [],_=>by simp[xU]
 | p::r,h=>by have h1:=h p (by simp);have h2:=zIO r (fun q hq=>h q (List.mem_cons_of_mem _ hq));rw[xU,List.length_cons];omega
set_option maxRecDepth 100000 in
theorem zII (sb so sc m:Nat) (ps:List PartD) (w:World) (hlen:ps.length=m) (hb:sb<w.heap.size) (hm:m≤8) (hn:∀p∈ps,p.n≤1000) (hpos:0<xU ps)
 (hc:∀j,j<m→w.cell? ⟨sb,so+j,none⟩=some (.slice (ps.getD j default).A (ps.getD j default).n (ps.getD j default).c))
 (hr:∀p∈ps,Reads w w.heap.size 4 p.A p.n p.xs∧∀u∈p.xs,u.oneCell'=true) :
 Calls Tryz.prog 54 #[.slice (some ⟨sb,so,none⟩) m sc] w fun e w'=>∃v,e=.returned v∧w'.ownsRow w.heap.size 88 4 v (xU ps) (zCM ps)∧Below w.heap.size w w':=by
 obtain⟨i0,hi0,hz0,hz1,hz2⟩:=info_parts uT;have HC:=zh hc;have HN:=zh hn;have HRd:=zh hr;have HLN:=zh hlen;have HPOS:=zh hpos;have HSL:Hid (∀k,xU (ps.take k)≤8000):=fun k=>by have:=zIO (ps.take k) (fun p hp=>hn p (List.mem_of_mem_take hp));rw[List.length_take]at this;omega
 clear hc hn hr hlen hpos;go_enter Tryz.func54,Tryz.ntmps54;go_wp2_with fail;go_loopw [3,11] (fun v i wr=>∃k:Nat,k≤m∧i=.int .i64 k∧v=.int .i64 (xU (ps.take k))∧Hid (w=wr)) (fun _ i _=>m-(intOf i).toNat);case atStart=>exact⟨0,Nat.zero_le _,rfl,rfl,by first | exact(trivial:True) | exact(rfl:w=w)⟩
 case round =>
  obtain⟨k,hk,rfl,rfl,hww⟩:=hrel;have hww':w=wr:=hww;subst hww';clear hww;by_cases hlt:k<m
  · have hcell:=HC.out k hlt;have hkl:k<ps.length:=by rw[HLN.out];exact hlt
    have HST:=zh (zFs ps k hkl).1;have h1:=HSL.out k;have h2:=HN.out _ (xD ps k hkl);have hw0:wrap64 ((xU (ps.take k):Int)+((ps.getD k default).n:Int))=(xU (ps.take k):Int)+((ps.getD k default).n:Int):=by unfold wrap64;omega
    have hneg:¬((xU (ps.take k):Int)+((ps.getD k default).n:Int)<0):=by omega
    clear hkl;generalize ps.getD k default=p at *;generalize xU (ps.take k)=S at *;go_wp2_with fail;go_roundw;case rel=>exact⟨k+1,by omega,by go_num,by rw[HST.out];go_num,by first | exact(trivial:True) | exact(rfl:w=w)⟩
    case measure=>simp[intOf];omega
  · have hkm:k=m:=by omega
    subst hkm;have hfull:ps.take k=ps:=List.take_of_length_le (by rw[HLN.out];omega);rw[hfull];have hS:xU ps≤8000:=by have:=HSL.out k;rw[hfull]at this;exact this
    have HKG:=zh (zHG (xU ps) w HPOS.out (by omega));clear hfull;generalize hSS:xU ps=S at *;have HSS:=zh hSS;clear hSS;go_wp2_with fail;refine HKG.out.mono ?_;rintro e w1 ⟨v1,rfl,ho1,hb1⟩;have HO1:=zh ho1;have HB1:=zh hb1;clear ho1 hb1;go_wp2_with fail;go_loopw [6,27] (fun v i wr=>∃q:Nat,q≤k∧i=.int .i64 q∧Hid (wr.ownsRow w.heap.size 88 4 v (xU (ps.take q)) (zCM (ps.take q)))∧Below w.heap.size w wr) (fun _ i _=>k-(intOf i).toNat);case atStart=>exact⟨0,Nat.zero_le _,rfl,HO1.out,HB1.out⟩
    case round =>
     obtain⟨q,hq,rfl,HO2,hb2⟩:=hrel;have HB2:=zh hb2;have hw2:=hb2.size;clear hb2;by_cases hlq:q<k
     · have hcell:=(HB2.out.cell (p:=⟨sb,so+q,none⟩) hb).trans (HC.out q hlq);have hkl:q<ps.length:=by rw[HLN.out];exact hlq
       have HST:=zh (zFs ps q hkl);have h1:=HSL.out q;have h2:=HN.out _ (xD ps q hkl);obtain⟨g1,g2⟩:=HRd.out _ (xD ps q hkl);have HG1:=zh (g1.below HB2.out);have HG2:=zh g2;clear hkl g1 g2;have hbz:sb<wr.heap.size:=by omega
       generalize ps.getD q default=p at *;generalize hfs:xU (ps.take q)=N at *;have HFS:=zh hfs;clear hfs;generalize hxs:zCM (ps.take q)=X at *;have HXS:=zh hxs;clear hxs;go_wp2_with (at_builtin;refine wE _ rfl (.tmp 31) (.tmp 32) 34 rfl w.heap.size 88 i0 _ 4 64 Tryz.underlying34 hi0 hz0 hz1 hz2 rfl (by decide) _ N X rfl (HO2.out) w.heap.size p.A p.n p.c p.xs rfl (HG1.out) (HG2.out) ?c1 ?c2 ?c3 ?_);case c1=>unfold maxLen;omega
       case c2=>omega
       case c3=>omega
       intro v5 w5 hown5 hgrow5 _;have HB5:Hid (Below w.heap.size w w5):=HB2.out.grown hgrow5 (by omega) (fun g hg=>(World.ownsRow.lt HO2.out g hg).1);have HO5:=zh hown5;clear hown5 hgrow5;go_wp2_with fail;go_roundw;case rel=>exact⟨q+1,by omega,by go_num,by rw[HST.out.1,HST.out.2];exact HO5.out,HB5.out⟩
       case measure=>simp[intOf];omega
     · have hqk:q=k:=by omega
       have HE:Hid (wr.ownsRow w.heap.size 88 4 u6 S (zCM ps)):=by have h:=HO2.out;rw[List.take_of_length_le (l:=ps) (by rw[HLN.out];omega),HSS.out]at h;exact h
       go_wp2_with fail;go_ret;exact⟨_,rfl,by rw[HSS.out];exact HE.out,HB2.out⟩
end Go.Proofs.YtgmaamnofhmecaaGreatDoor
namespace Go.Proofs.YtgmaamnofhmecaaGreatDoor
open Go.RowKit
set_option maxRecDepth 100000 in
theorem zFc (b0 b1 b2 b3 c0 c1 c2:Value) (b:TableD) (d:NodeD) (w:World) (hb:TableR w w.heap.size b0 b1 b2 b3 b) (h:NodeR w w.heap.size c0 c1 c2 d) :
 Calls Tryz.prog 202 #[.agg #[b0,b1,b2,b3],.agg #[c0,c1,c2]] w fun e w'=>e=.returned (.bool (yI b.glob d))∧Below w.heap.size w w':=by
 obtain⟨rfl,rfl,⟨A2,n2,p2,rfl,s2,k2⟩,⟨A3,n3,p3,rfl,s3,k3⟩⟩:=hb;obtain⟨rfl,⟨A1,n1,cap1,rfl,hs1,hcap1⟩,rfl⟩:=h;have HR:Hid (yI b.glob d=(decide (d.name=b.glob)&&(decide (d.subs.length=2)&&decide (d.subs.getD 0 ByteArray.empty=⟨#[114]⟩)))):=rfl;have HL1:=zh hs1.1;have HC1:=zh hs1.2;have HB0:=zh ((Below.new w (.cells #[.string b.name,.string b.glob,.slice A2 n2 p2,.slice A3 n3 p3] 29)).later (Below.new _ (.cells #[.string d.name,.slice A1 n1 cap1,.string d.val] 102)));clear s2 s3 hs1;generalize yI b.glob d=R at *;generalize b.glob=gl at *;generalize b.name=bn at *;generalize d.val=vl at *;by_cases hnm:d.name=gl
 case neg =>
  have HE:Hid (R=false):=by unfold Hid;rw[HR.out,decide_eq_false hnm];rfl
  have hbe:=vE hnm;generalize d.name=dn at *;clear hnm HR;go_enter Tryz.func202,Tryz.ntmps202;go_wp2_with fail;go_ret;exact⟨zA0 HE.out.symm,HB0.out⟩
 subst hnm;by_cases hn2:n1=2
 case neg =>
  have HE:Hid (R=false):=by unfold Hid;rw[HR.out,HL1.out,decide_eq_false hn2];simp
  have hb3:((n1:Int)==2)=false:=by rw[beq_eq_false_iff_ne];omega
  have hb4:(n1==2)=false:=by rw[beq_eq_false_iff_ne];omega
  generalize d.name=dn at *;clear hn2 HR;go_enter Tryz.func202,Tryz.ntmps202;go_wp2_with fail;go_ret;exact⟨zA0 HE.out.symm,HB0.out⟩
 subst hn2;obtain⟨sb,so,rfl,hsb,hsc⟩:=HC1.out (by omega);have hck:=hsc 0 (by omega);clear hsc;rw[Nat.add_zero]at hck;have HE:Hid (R=decide (d.subs.getD 0 ByteArray.empty=⟨#[114]⟩)):=by unfold Hid;rw[HR.out,HL1.out];simp
 clear HR;generalize d.name=dn at *;generalize d.subs.getD 0 ByteArray.empty=s0 at *;by_cases hsub:s0=⟨#[114]⟩
 case neg =>
  have HE2:Hid (R=false):=by unfold Hid;rw[HE.out,decide_eq_false hsub]
  have hbe:=vE hsub;have hbe3:=zAa hsub;clear hsub HE;go_enter Tryz.func202,Tryz.ntmps202;go_wp2_with fail;go_ret;exact⟨zA0 HE2.out.symm,HB0.out⟩
 subst hsub;have HE2:Hid (R=true):=by unfold Hid;rw[HE.out];simp
 clear HE;go_enter Tryz.func202,Tryz.ntmps202;go_wp2_with fail;go_ret;exact⟨zA0 HE2.out.symm,HB0.out⟩
set_option maxRecDepth 100000 in
theorem zEW (bk:Nat) (b0 b1 b2 b3 c0 c1 c2:Value) (b:TableD) (d:NodeD) (w:World) (hk:Blk w bk 29 #[b0,b1,b2,b3]) (hb:TableR w w.heap.size b0 b1 b2 b3 b) (h:NodeR w w.heap.size c0 c1 c2 d) :
 Calls Tryz.prog 201 #[.agg #[c0,c1,c2],.pointer (some ⟨bk,0,none⟩)] w fun e w'=>e=.returned (.bool (!yI b.glob d))∧Below w.heap.size w w':=by
 have HK:=zh (fun o=>zFc b0 b1 b2 b3 c0 c1 c2 b d (w.alloc o) (hb.later (Below.new _ _)) (h.later (Below.new _ _)));obtain⟨rfl,rfl,⟨A2,n2,p2,rfl,s2,k2⟩,⟨A3,n3,p3,rfl,s3,k3⟩⟩:=hb;obtain⟨rfl,⟨A1,n1,cap1,rfl,hs1,hcap1⟩,rfl⟩:=h;have x0:=hk.cell 0;have x1:=hk.cell 1;have x2:=hk.cell 2;have x3:=hk.cell 3;simp at x0 x1 x2 x3;have hlt:=hk.lt;clear hk s2 s3 hs1;generalize yI b.glob d=R at *;go_enter Tryz.func201,Tryz.ntmps201;go_wp2_with fail;refine(HK.out _).mono ?_;rintro e w1 ⟨rfl,hb1⟩;have HB:=zh ((Below.new w _).later hb1);clear hb1;go_wp2_with fail;go_ret;exact⟨rfl,HB.out⟩
theorem zKv (g:ByteArray) (fs:List NodeD):(fs.filter fun d=>!(!yI g d))=yA g fs:=by
 unfold yA
 congr 1
 funext d
 simp
set_option maxRecDepth 100000 in
theorem zCt (A:Option Addr) (n c:Nat) (b0 b1 b2 b3:Value) (fs:List NodeD) (b:TableD) (w:World) (h:Nodes w w.heap.size A n fs) (hb:TableR w w.heap.size b0 b1 b2 b3 b) (hs:wB fs) :
 Calls Tryz.prog 128 #[.agg #[.slice A n c],.agg #[b0,b1,b2,b3]] w (zFK w (yA b.glob fs)):=by
 have hn:n≤1048576:=by rw[←h.1];exact hs.1
 have HKc:=zh (fun W (hW:Below w.heap.size w W)=>zIK w A n c fs W h hW hn);have HT:=zh (fun W (hW:Below w.heap.size w W)=>hb.later hW);have HS:=zh hs.1;have HF:=zh (zKv b.glob fs);obtain⟨rfl,rfl,⟨A2,n2,p2,rfl,s2,k2⟩,⟨A3,n3,p3,rfl,s3,k3⟩⟩:=hb;clear s2 s3 h hs hn;have HB0:=zh ((Below.new w (.cells #[.slice A n c] 26)).later (Below.new _ (.cells #[.string b.name,.string b.glob,.slice A2 n2 p2,.slice A3 n3 p3] 29)));go_enter Tryz.func128,Tryz.ntmps128;go_wp2_with fail;refine(HKc.out _ HB0.out).mono ?_;rintro e w1 ⟨v,cs,rfl,ho,hc,hb1⟩
 have HP:Hid (zES 201 #[.pointer (some ⟨w.heap.size+1,0,none⟩)] (fun d=>!yI b.glob d) fs ((w.alloc (.cells #[.slice A n c] 26)).alloc (.cells #[.string b.name,.string b.glob,.slice A2 n2 p2,.slice A3 n3 p3] 29))) :=
  fun d _ c0 c1 c2 W hW hr=>zEW (w.heap.size+1) _ _ _ _ c0 c1 c2 b d W (Blk.later (xB w _ _) hW (by simp)) (HT.out W (HB0.out.later hW)) hr
 have HKd:=zh (zDL 201 #[.pointer (some ⟨w.heap.size+1,0,none⟩)] (fun d=>!yI b.glob d) v fs cs _ w1 (zEk w w.heap.size) (fun c d ⟨c0,c1,c2,e,hr⟩=>⟨c0,c1,c2,e,hr.later HB0.out⟩) ho hc hb1 HS.out (enters_of Tryz.func201 (by kernel_rfl) rfl) HP.out);rw[HF.out]at HKd;have HB1:=zh hb1;clear ho hc hb1;go_wp2_with fail;refine HKd.out.mono ?_;rintro e w2 ⟨v2,cs2,rfl,ho2,hc2,hb2⟩;have HO2:=zh ho2;have HC2:=zh hc2;have HB2:=zh hb2;clear ho2 hc2 hb2;go_wp2_with fail;go_ret;exact⟨_,cs2,rfl,Own.own_base HO2.out (by simp;omega),cellsN_iff.2 HC2.out,HB0.out.later HB2.out⟩
end Go.Proofs.YtgmaamnofhmecaaGreatDoor
