import Derived.Test.YtlicffeicmoifaaGreatDoorZ00
import Derived.Test.YtlicffeicmoifaaGreatDoorZ01
import Derived.Test.YtlicffeicmoifaaGreatDoorZ02
import Derived.Test.YtlicffeicmoifaaGreatDoorZ03
import Derived.Test.YtlicffeicmoifaaGreatDoorZ04
import Derived.Test.YtlicffeicmoifaaGreatDoorZ05
import Derived.Test.YtlicffeicmoifaaGreatDoorZ06
import Derived.Test.YtlicffeicmoifaaGreatDoorZ07
import Derived.Test.YtlicffeicmoifaaGreatDoorZ08
import Derived.Test.YtlicffeicmoifaaGreatDoorZ09
import Derived.Test.YtlicffeicmoifaaGreatDoorZ10
import Derived.Test.YtlicffeicmoifaaGreatDoorZ11
import Derived.Test.YtlicffeicmoifaaGreatDoorZ12
import Derived.Test.YtlicffeicmoifaaGreatDoorZ13
import Derived.Test.YtlicffeicmoifaaGreatDoorZ14
import Derived.Test.YtlicffeicmoifaaGreatDoorZ15
import Derived.Test.YtlicffeicmoifaaGreatDoorZ16
import Derived.Test.YtlicffeicmoifaaGreatDoorZ17
import Derived.Test.YtlicffeicmoifaaGreatDoorZ18
import Derived.Test.YtlicffeicmoifaaGreatDoorZ19
import Derived.Test.YtlicffeicmoifaaGreatDoorZ20
import Derived.Test.YtlicffeicmoifaaGreatDoorZ21
import Derived.Test.YtlicffeicmoifaaGreatDoorZ22
import Derived.Test.YtlicffeicmoifaaGreatDoorZ23
import Derived.Test.YtlicffeicmoifaaGreatDoorZ24
import Derived.Test.YtlicffeicmoifaaGreatDoorZ25
import Derived.Test.YtlicffeicmoifaaGreatDoorZ26
import Derived.Test.YtlicffeicmoifaaGreatDoorZ27
import Derived.Test.YtlicffeicmoifaaGreatDoorZ28
import Derived.Test.YtlicffeicmoifaaGreatDoorZ29
import Derived.Test.YtlicffeicmoifaaGreatDoorZ30
import Derived.Test.YtlicffeicmoifaaGreatDoorZ31
import Derived.Test.YtlicffeicmoifaaGreatDoorZ32
import Derived.Test.YtlicffeicmoifaaGreatDoorZ33
import Derived.Test.YtlicffeicmoifaaGreatDoorZ34
import Derived.Test.YtlicffeicmoifaaGreatDoorZ35
import Derived.Test.YtlicffeicmoifaaGreatDoorZ36
import Derived.Test.YtlicffeicmoifaaGreatDoorZ37
import Derived.Test.YtlicffeicmoifaaGreatDoorZ38
import Derived.Test.YtlicffeicmoifaaGreatDoorZ39
import Derived.Test.YtlicffeicmoifaaGreatDoorZ40
import Derived.Test.YtlicffeicmoifaaGreatDoorZ41
import Derived.Test.YtlicffeicmoifaaGreatDoorZ42
import Derived.Test.YtlicffeicmoifaaGreatDoorY00
import Derived.Test.YtlicffeicmoifaaGreatDoorY01
import Derived.BigQuiet
import Derived.Deep.AppendLies
import Derived.Deep.QuietTactic
import Derived.Laws.OwnMore
import Derived.Lib.Hide
import Derived.Lib.Strings
import Derived.Maps.AppendAt
import Derived.OwnWalk
import Derived.RegionTactic
import Derived.WalkKit
import Derived.WalkLawsBesides
import Derived.WalkSpells
set_option linter.unusedSimpArgs false
set_option maxHeartbeats 8000000
open Go.Lib renaming hid → zh
namespace Go.Proofs.YtlicffeicmoifaaGreatDoor
open Go.RowKit
set_option linter.unusedVariables false
def PutEPost (x:Int) (zs:List Int) (w:World) (e:Ending) (w':World):Prop:=∃v,e=.returned v∧w'.ownsRow w.heap.size 2 1 v (putS x zs).length ((putS x zs).map (Value.int .i64))∧Below w.heap.size w w'
theorem l00PutE_any (A:Option Addr) (n c:Nat) (zs:List Int) (x:Int) (w:World) (h:Ints w w.heap.size A n zs) (hn:n≤4194304) :
 Calls Tryz.prog 126 #[.slice A n c,.int .i64 x] w (PutEPost x zs w):=by
 obtain⟨i0,hi,hz0,hz1,hz2⟩:=info_parts infoI64;have Hh:=zh h;clear h;go_enter Tryz.func126,Tryz.ntmps126;go_wp2_with fail;go_loopw [5,6,7] (fun v d i wr=>∃(k:Nat) (b:Bool) (ys:List Int),k≤n∧i=.int .i64 k∧d=.bool b∧wr.ownsRow w.heap.size 2 1 v ys.length (ys.map (Value.int .i64))∧ys.length≤k+(if b=true then 1 else 0)∧Hid (PutI x zs k b ys)∧Below w.heap.size w wr) (fun _ _ i _=>n-(intOf i).toNat);case atStart=>exact⟨0,false,[],by omega,rfl,rfl,World.ownsRow_lit _ _ 0 (Nat.le_refl _) (by omega) rfl,by simp,put_start,Below.new _ _⟩
 case round =>
  obtain⟨k,b,ys,hk,rfl,rfl,hown,hl,HPI,hb⟩:=hrel;have HB:=zh hb;have HO:=zh hown;have HL:=zh hl;have hsz:=HB.out.size;have hl2:ys.length≤k+1:=by have:=HL.out;split at this <;> omega
  clear hb hown hl
  have HN:Hid (∀(o:Obj) (w1:World),(wr.alloc o).grownBy w1 u5.ownBlock→Below w.heap.size w w1):=fun o w1 hg =>
   (HB.out.later (Below.new _ o)).grown hg (by simp;omega) (fun g hg'=>(HO.out.lt g hg').1)
  generalize hm:ys.length=m at *;have HM:=zh hm;clear hm;by_cases hlt:k<n
  · obtain⟨bb,o,rfl,hbB,hc⟩:=(Hh.out.later HB.out).2 (by omega);have hck:=hc k hlt;have hkz:k<zs.length:=by rw[Hh.out.1];exact hlt
    have HI1:Hid (b=false→x<zs.getD k 0→PutI x zs (k+1) true (ys++[x]++[zs.getD k 0])):=fun hb hx=>put_ins (by have:=HPI.out;rwa [hb]at this) hkz hx;have HI2:Hid (b=false→x=zs.getD k 0→PutI x zs (k+1) true (ys++[zs.getD k 0])):=fun hb hx=>put_eq (by have:=HPI.out;rwa [hb]at this) hkz hx;have HI3:Hid (b=false→zs.getD k 0<x→PutI x zs (k+1) false (ys++[zs.getD k 0])):=fun hb hx=>put_pass (by have:=HPI.out;rwa [hb]at this) hkz hx;have HI4:Hid (b=true→PutI x zs (k+1) true (ys++[zs.getD k 0])):=fun hb=>put_rest (by have:=HPI.out;rwa [hb]at this) hkz;clear hc hkz;generalize zs.getD k 0=y at *;cases b
    · have hlf:m≤k:=by have:=HL.out;simpa using this
      by_cases hge:x≤y
      · by_cases hgt:x<y
        ·
         go_wp2_with (at_builtin;refine wpList_append_own _ rfl (.tmp 31) (.tmp 33) 40 rfl w.heap.size 2 i0 (.int .i64 0) 1 8 Tryz.underlying40 hi hz0 hz1 hz2 rfl (by decide) _ m _ rfl (HO.out.alloc _) ⟨_,0,none⟩ 1 1 [.int .i64 x] rfl rfl ?c1a ?c2a ?c3a ?c4a ?c5a ?_);try case c1a=>exact cell_one_new _ _ _
         case c2a=>simp[Value.oneCell']
         case c3a=>unfold maxLen;omega
         case c4a=>omega
         case c5a=>first | omega | (simp;omega)
         intro v1 w1 hown1 hg1 _;have HB1:=zh (HN.out _ w1 hg1);have hck1:w1.cell? ⟨bb,o+k,none⟩=some (.int .i64 y):=by have h1:=(Hh.out.later HB1.out).2 (by omega);obtain⟨bb',o',e,_,hc'⟩:=h1;have h2:=(Hh.out.later HB.out).2 (by omega);obtain⟨bb'',o'',e',_,hc''⟩:=h2;cases e;cases e';rw[hc' k hlt,←hc'' k hlt,hck]
         have HO1:=zh hown1;have hsz1:=HB1.out.size
         have HN1:Hid (∀(o:Obj) (w2:World),(w1.alloc o).grownBy w2 v1.ownBlock→Below w.heap.size w w2):=fun o w2 hg =>
          (HB1.out.later (Below.new _ o)).grown hg (by simp;omega) (fun g hg'=>(HO1.out.lt g hg').1)
         clear hown1 hg1 hck;go_wp2_with (at_builtin;refine wpList_append_own _ rfl (.tmp 35) (.tmp 40) 40 rfl w.heap.size 2 i0 (.int .i64 0) 1 8 Tryz.underlying40 hi hz0 hz1 hz2 rfl (by decide) _ (m+1) _ rfl (HO1.out.alloc _) ⟨_,0,none⟩ 1 1 [.int .i64 y] rfl rfl ?c1b ?c2b ?c3b ?c4b ?c5b ?_);try case c1b=>exact cell_one_new _ _ _
         case c2b=>simp[Value.oneCell']
         case c3b=>unfold maxLen;omega
         case c4b=>omega
         case c5b=>first | omega | (simp;omega)
         intro v2 w2 hown2 hg2 _;have HB2:=zh (HN1.out _ w2 hg2);have HO2:=zh hown2;clear hown2 hg2;go_wp2_with fail;go_roundw;case rel=>exact⟨k+1,true,ys++[x]++[y],by omega,by go_num,rfl,by have h:=HO2.out;simpa [HM.out] using h,by simp[HM.out];omega,HI1.out (by first | rfl | trivial) hgt,HB2.out⟩
         case measure=>simp[intOf];omega
        ·
         go_wp2_with (at_builtin;refine wpList_append_own _ rfl (.tmp 35) (.tmp 40) 40 rfl w.heap.size 2 i0 (.int .i64 0) 1 8 Tryz.underlying40 hi hz0 hz1 hz2 rfl (by decide) _ m _ rfl (HO.out.alloc _) ⟨_,0,none⟩ 1 1 [.int .i64 y] rfl rfl ?c1c ?c2c ?c3c ?c4c ?c5c ?_);try case c1c=>exact cell_one_new _ _ _
         case c2c=>simp[Value.oneCell']
         case c3c=>unfold maxLen;omega
         case c4c=>omega
         case c5c=>first | omega | (simp;omega)
         intro v1 w1 hown1 hg1 _;have HB1:=zh (HN.out _ w1 hg1);have HO1:=zh hown1;clear hown1 hg1;go_wp2_with fail;go_roundw;case rel=>exact⟨k+1,true,ys++[y],by omega,by go_num,rfl,by have h:=HO1.out;simpa [HM.out] using h,by simp[HM.out];omega,HI2.out (by first | rfl | trivial) (by omega),HB1.out⟩
         case measure=>simp[intOf];omega
      ·
       go_wp2_with (at_builtin;refine wpList_append_own _ rfl (.tmp 35) (.tmp 40) 40 rfl w.heap.size 2 i0 (.int .i64 0) 1 8 Tryz.underlying40 hi hz0 hz1 hz2 rfl (by decide) _ m _ rfl (HO.out.alloc _) ⟨_,0,none⟩ 1 1 [.int .i64 y] rfl rfl ?c1d ?c2d ?c3d ?c4d ?c5d ?_);try case c1d=>exact cell_one_new _ _ _
       case c2d=>simp[Value.oneCell']
       case c3d=>unfold maxLen;omega
       case c4d=>omega
       case c5d=>first | omega | (simp;omega)
       intro v1 w1 hown1 hg1 _;have HB1:=zh (HN.out _ w1 hg1);have HO1:=zh hown1;clear hown1 hg1;go_wp2_with fail;go_roundw;case rel=>exact⟨k+1,false,ys++[y],by omega,by go_num,rfl,by have h:=HO1.out;simpa [HM.out] using h,by simp[HM.out];omega,HI3.out (by first | rfl | trivial) (by omega),HB1.out⟩
       case measure=>simp[intOf];omega
    ·
     go_wp2_with (at_builtin;refine wpList_append_own _ rfl (.tmp 35) (.tmp 40) 40 rfl w.heap.size 2 i0 (.int .i64 0) 1 8 Tryz.underlying40 hi hz0 hz1 hz2 rfl (by decide) _ m _ rfl (HO.out.alloc _) ⟨_,0,none⟩ 1 1 [.int .i64 y] rfl rfl ?c1e ?c2e ?c3e ?c4e ?c5e ?_);try case c1e=>exact cell_one_new _ _ _
     case c2e=>simp[Value.oneCell']
     case c3e=>unfold maxLen;omega
     case c4e=>omega
     case c5e=>first | omega | (simp;omega)
     intro v1 w1 hown1 hg1 _;have HB1:=zh (HN.out _ w1 hg1);have HO1:=zh hown1;clear hown1 hg1;go_wp2_with fail;go_roundw;case rel=>exact⟨k+1,true,ys++[y],by omega,by go_num,rfl,by have h:=HO1.out;simpa [HM.out] using h,by simp[HM.out];omega,HI4.out (by first | rfl | trivial),HB1.out⟩
     case measure=>simp[intOf];omega
  · obtain rfl:k=n:=by omega
    cases b
    · have hlf:m≤k:=by have:=HL.out;simpa using this
      go_wp2_with (at_builtin;refine wpList_append_own _ rfl (.tmp 44) (.tmp 46) 40 rfl w.heap.size 2 i0 (.int .i64 0) 1 8 Tryz.underlying40 hi hz0 hz1 hz2 rfl (by decide) _ m _ rfl (HO.out.alloc _) ⟨_,0,none⟩ 1 1 [.int .i64 x] rfl rfl ?c1f ?c2f ?c3f ?c4f ?c5f ?_);try case c1f=>exact cell_one_new _ _ _
      case c2f=>simp[Value.oneCell']
      case c3f=>unfold maxLen;omega
      case c4f=>omega
      case c5f=>first | omega | (simp;omega)
      intro v1 w1 hown1 hg1 _;have HB1:=zh (HN.out _ w1 hg1);have hown1':w1.ownsRow w.heap.size 2 1 v1 (m+1) ((ys++[x]).map (Value.int .i64)):=by simpa using hown1
      have HZ:Hid (ys++[x]=putS x zs):=put_end0 (by have:=HPI.out;rwa [←Hh.out.1]at this);have HO1:=zh hown1';obtain⟨A',c',rfl,hc,hI⟩:=own_ints hown1';clear hown1 hown1' hg1 hI;go_wp2_with fail;go_ret;exact⟨_,rfl,by rw[←HZ.out];simpa [HM.out] using HO1.out,HB1.out⟩
    · obtain⟨A',c',e,hc,hI⟩:=own_ints HO.out;subst e;have HZ:Hid (ys=putS x zs):=put_end1 (by have:=HPI.out;rwa [←Hh.out.1]at this);clear hI;go_wp2_with fail;go_ret;exact⟨_,rfl,by rw[←HZ.out,HM.out];exact HO.out,HB.out⟩
end Go.Proofs.YtlicffeicmoifaaGreatDoor
namespace Go.Proofs.YtlicffeicmoifaaGreatDoor
open Go.RowKit
set_option linter.unusedVariables false
set_option linter.unusedSimpArgs false
theorem l00Has_any (A:Option Addr) (n c:Nat) (zs:List Int) (x:Int) (w:World) (h:Ints w w.heap.size A n zs) (hn:n≤1048576) :
 Calls Tryz.prog 128 #[.slice A n c,.int .i64 x] w fun e w'=>e=.returned (.bool (decide (x∈zs)))∧w'=w:=by
 have Hh:=zh h;have HL:=zh h.1;have HR0:Hid (decide (x∈zs)=(zs.drop 0).any fun z=>decide (z=x)):=by unfold Hid;rw[List.drop_zero,Bool.eq_iff_iff,decide_eq_true_iff,List.any_eq_true];exact⟨fun hx=>⟨x,hx,decide_eq_true rfl⟩,fun ⟨z,hz,e⟩=>(of_decide_eq_true e) ▸ hz⟩
 clear h;generalize decide (x∈zs)=R at *;go_enter Tryz.func128,Tryz.ntmps128;go_wp2_with fail;go_loopw [5] (fun i wr=>∃k:Nat,k≤n∧i=.int .i64 k∧wr=w∧Hid (R=(zs.drop k).any fun z=>decide (z=x))) (fun i _=>n-(intOf i).toNat);case atStart=>exact⟨0,Nat.zero_le _,by first | rfl | trivial,by first | rfl | trivial,HR0.out⟩
 case round =>
  obtain⟨k,hk,rfl,rfl,hS⟩:=hrel;by_cases hlt:k<n
  · obtain⟨b,o,rfl,hbB,hc⟩:=Hh.out.2 (by omega);have k0:=hc k hlt;have hl:k<zs.length:=by rw[HL.out];exact hlt
    have HS:Hid ((zs.drop k).any (fun z=>decide (z=x))=(decide (zs.getD k 0=x)||(zs.drop (k+1)).any fun z=>decide (z=x))):=by unfold Hid;rw[List.drop_eq_getElem_cons hl,List.getD_eq_getElem?_getD,List.getElem?_eq_getElem hl];rfl
    clear hc hl;generalize zs.getD k 0=y at *;have hki:(k:Int)<(n:Int):=by omega
    by_cases hy:y=x
    · subst hy;go_wp2_with fail;go_ret;exact⟨ret_bool (by rw[hS.out,HS.out];simp),by first | rfl | trivial⟩
    · have hyb:(y==x)=false:=beq_eq_false_iff_ne.2 hy;have hd:decide (y=x)=false:=decide_eq_false hy;go_wp2_with fail;go_roundw;case rel=>exact⟨k+1,by omega,by go_num,by first | rfl | trivial,by unfold Hid;rw[hS.out,HS.out,hd];rfl⟩
      case measure=>simp[intOf];omega
  · have HE:Hid (R=false):=by unfold Hid;rw[hS.out,List.drop_of_length_le (by rw[HL.out];omega)];rfl
    have hki:¬(k:Int)<(n:Int):=by omega
    go_wp2_with fail;go_ret;exact⟨ret_bool HE.out.symm,rfl⟩
theorem putS_len (x:Int):∀l:List Int,(putS x l).length≤l.length+1
 | []=>by simp[putS]
 | y::r=>by
   unfold putS;split
   · simp
   · split
     · simp
     · have:=putS_len x r;simp only[List.length_cons];omega
def IntsPost (zs:List Int) (w:World) (e:Ending) (w':World):Prop:=∃v,e=.returned v∧w'.ownsRow w.heap.size 2 1 v zs.length (zs.map (Value.int .i64))∧Below w.heap.size w w'
theorem jobs_snoc {l:List DoD} {k:Nat} (h:k<l.length):jobsJ (l.take (k+1))=putS (l.getD k default).job (jobsJ (l.take k)):=by
 unfold jobsJ;rw[List.take_succ_eq_append_getElem h,List.foldl_append,List.getD_eq_getElem?_getD,List.getElem?_eq_getElem h];rfl
theorem l28Jobs_any (A:Option Addr) (n c:Nat) (l:List DoD) (w:World) (h:Dos w w.heap.size A n l) (hn:n≤60) :
 Calls Tryz.prog 59 #[.slice A n c] w (IntsPost (jobsJ l) w):=by
 have HEV:=zh h;have HL:=zh h.1;clear h;go_enter Tryz.func59,Tryz.ntmps59;go_wp2_with fail;go_loopw [3,4] (fun v i wr=>∃(k:Nat) (js:List Int),k≤n∧i=.int .i64 k∧wr.ownsRow w.heap.size 2 1 v js.length (js.map (Value.int .i64))∧js.length≤k∧Hid (js=jobsJ (l.take k))∧Below w.heap.size w wr) (fun _ i _=>n-(intOf i).toNat);case atStart=>exact⟨0,[],Nat.zero_le _,rfl,World.ownsRow_lit _ _ 0 (Nat.le_refl _) (by omega) rfl,Nat.le_refl _,rfl,Below.new _ _⟩
 case round =>
  obtain⟨k,js,hk,rfl,hown,hjl,HJ,hb⟩:=hrel;have HO:=zh hown;have HB:=zh hb;obtain⟨JA,jc,rfl,hjc,hI⟩:=own_ints hown;have HI:=zh hI;clear hown hb hI;by_cases hlt:k<n
  · obtain⟨b,o,S,m,q,rfl,hat⟩:=dos_at HEV.out hlt;obtain⟨⟨k0,k1,k2,k3,k4,k5⟩,_⟩:=hat wr HB.out;have hl:k<l.length:=by rw[HL.out];exact hlt
    have HS:=zh (jobs_snoc hl);clear hl hat k1 k2 k3 k4 k5;generalize (l.getD k default).job=x at *;have HKP:=zh (l00PutE_any JA js.length jc js x wr HI.out (by omega));have hki:(k:Int)<(n:Int):=by omega
    have hpl:=putS_len x js;have hbz:=HB.out.size;go_wp2_with fail;refine HKP.out.mono ?_;rintro e w1 ⟨v1,rfl,hown1,hb1⟩;have HO1:=zh (Own.own_base hown1 hbz);have HB1:=zh (HB.out.later hb1);clear hown1 hb1;go_wp2_with fail;go_roundw;case rel=>exact⟨k+1,putS x js,by omega,by go_num,HO1.out,by omega,by unfold Hid;rw[HS.out,HJ.out],HB1.out⟩
    case measure=>simp[intOf];omega
  · obtain rfl:k=n:=by omega
    have HE:Hid (js=jobsJ l):=by unfold Hid;rw[HJ.out,List.take_of_length_le (by rw[HL.out];exact Nat.le_refl _)]
    have hki:¬(k:Int)<(k:Int):=by omega
    go_wp2_with fail;go_ret;exact⟨_,rfl,by rw[←HE.out];exact HO.out,HB.out⟩
def EdsPost (es:List (Int × Int)) (w:World) (e:Ending) (w':World):Prop:=∃v,e=.returned v∧w'.ownsRow w.heap.size 48 2 v es.length (edC es)∧Below w.heap.size w w'
def four:List Int:=[1,2,3,4]
theorem four_drop:∀{k:Nat},k<4→four.drop k=((k:Int)+1)::four.drop (k+1)
 | 0,_=>rfl
 | 1,_=>rfl
 | 2,_=>rfl
 | 3,_=>rfl
 | k+4,h=>by omega
theorem edgR_cons {l:List DoD} {a b:Int} {r:List Int}:edgR l a (b::r)=if edgeE l a b=true then (a,b)::edgR l a r else edgR l a r:=by
 unfold edgR;rw[List.filter_cons];split <;> rfl
theorem edgR_len {l:List DoD} {a:Int} {r:List Int}:(edgR l a r).length≤r.length:=by
 unfold edgR;rw[List.length_map];exact List.length_filter_le _ _
set_option maxRecDepth 100000 in
theorem l28Edges_any (A:Option Addr) (n c:Nat) (l:List DoD) (w:World) (h:Dos w w.heap.size A n l) (hd:doingsB l=true) (hok:okDs l) :
 Calls Tryz.prog 60 #[.slice A n c] w (EdsPost (edgesR l) w):=by
 obtain⟨i0,hi,hz0,hz1,hz2⟩:=info_parts infoEdge;have HKE:=zh (fun a b W (hW:Below w.heap.size w W)=>l28Edge_any A n c l a b W (h.later hW) hd hok);have HR0:Hid (edgesR l=[]++(four.drop 0).flatMap fun a=>edgR l a four):=rfl;have HEQ:Hid (∀a b,edgeE l a b=(decide (a≠b)&&edgeB l a b)):=fun _ _=>rfl;have HNI:Hid (∀a,edgR l a []=[]):=fun _=>rfl;have HCO:Hid (∀a b r,edgR l a (b::r)=if edgeE l a b=true then (a,b)::edgR l a r else edgR l a r):=fun a b r=>edgR_cons;clear h hd hok;unfold EdsPost;generalize edgesR l=R at *;generalize edgR l=G at *;generalize edgeE l=E at *;generalize edgeB l=B at *;go_enter Tryz.func60,Tryz.ntmps60;go_wp2_with fail;go_loopw [3,4] (fun v i wr=>∃(k:Nat) (es:List (Int × Int)),k≤4∧i=.int .i64 ((k:Int)+1)∧wr.ownsRow w.heap.size 48 2 v es.length (edC es)∧es.length≤4*k∧Hid (R=es++(four.drop k).flatMap fun a=>G a four)∧Below w.heap.size w wr) (fun _ i _=>5-(intOf i).toNat);case atStart=>exact⟨0,[],Nat.zero_le _,by go_num,World.ownsRow_lit _ _ 0 (Nat.le_refl _) (by omega) rfl,Nat.le_refl _,HR0.out,Below.new _ _⟩
 case round =>
  obtain⟨k,es,hk,rfl,hown,hel,HS,hb⟩:=hrel;have HO:=zh hown;have HB:=zh hb;clear hown hb HR0;by_cases hlt:k<4
  · have hki:(k:Int)+1≤4:=by omega
    have HS2:Hid (R=es++(G ((k:Int)+1) (four.drop 0)++(four.drop (k+1)).flatMap fun a=>G a four)):=by unfold Hid;rw[HS.out,four_drop hlt];rfl
    generalize hL2:((four.drop (k+1)).flatMap fun a=>G a four)=L2 at *;have HL2:=zh hL2;clear hL2 HS;go_wp2_with fail;go_loopw [3,5] (fun v jv wx=>∃(j:Nat) (es:List (Int × Int)),j≤4∧jv=.int .i64 ((j:Int)+1)∧wx.ownsRow w.heap.size 48 2 v es.length (edC es)∧es.length≤4*k+j∧Hid (R=es++(G ((k:Int)+1) (four.drop j)++L2))∧Below w.heap.size w wx) (fun _ jv _=>5-(intOf jv).toNat);case atStart=>exact⟨0,es,Nat.zero_le _,by go_num,HO.out,by omega,HS2.out,HB.out⟩
    case round =>
     obtain⟨j,es,hj,rfl,hown,hel,HS,hb⟩:=hrel;clear HS2 HO HB;have HO:=zh hown;have HB:=zh hb;clear hown hb;by_cases hjlt:j<4
     · have hji:(j:Int)+1≤4:=by omega
       have HS3:Hid (R=es++((if E ((k:Int)+1) ((j:Int)+1)=true then ((k:Int)+1,(j:Int)+1)::G ((k:Int)+1) (four.drop (j+1)) else G ((k:Int)+1) (four.drop (j+1)))++L2)):=by unfold Hid;rw[HS.out,four_drop hjlt,HCO.out]
       have HE2:=zh (HEQ.out ((k:Int)+1) ((j:Int)+1));have HK:=zh (HKE.out ((k:Int)+1) ((j:Int)+1) wr HB.out);clear HS;by_cases hkj:k=j
       · subst hkj;have HF:Hid (E ((k:Int)+1) ((k:Int)+1)=false):=by unfold Hid;rw[HE2.out];simp
         have HS4:Hid (R=es++(G ((k:Int)+1) (four.drop (k+1))++L2)):=by unfold Hid;rw[HS3.out,HF.out];rfl
         go_wp2_with fail;go_roundw;case rel=>exact⟨k+1,es,by omega,by go_num,HO.out,by omega,HS4.out,HB.out⟩
         case measure=>simp[intOf];omega
       · have hne:¬(k:Int)+1=(j:Int)+1:=by omega
         have hneb:(((k:Int)+1) != ((j:Int)+1))=true:=by simpa using (show ¬(k:Int)=(j:Int) by omega)
         have hneb2:((k:Int)==(j:Int))=false:=by rw[beq_eq_false_iff_ne];omega
         have hneb3:(((k:Int)+1)==((j:Int)+1))=false:=by rw[beq_eq_false_iff_ne];omega
         have hd1:decide ((k:Int)+1≠(j:Int)+1)=true:=decide_eq_true hne;rw[hd1,Bool.true_and]at HE2;generalize B ((k:Int)+1) ((j:Int)+1)=cf at *;cases cf
         · have HS4:Hid (R=es++(G ((k:Int)+1) (four.drop (j+1))++L2)):=by unfold Hid;rw[HS3.out,HE2.out];rfl
           go_wp2_with fail;refine HK.out.mono ?_;rintro e w1 ⟨rfl,hb1⟩;have HB1:=zh (HB.out.later hb1);have HO1:=zh (Own.own_later HO.out hb1);clear hb1;go_wp2_with fail;go_roundw;case rel=>exact⟨j+1,es,by omega,by go_num,HO1.out,by omega,HS4.out,HB1.out⟩
           case measure=>simp[intOf];omega
         · have HS4:Hid (R=(es++[((k:Int)+1,(j:Int)+1)])++(G ((k:Int)+1) (four.drop (j+1))++L2)):=by unfold Hid;rw[HS3.out,HE2.out];simp
           go_wp2_with fail;refine HK.out.mono ?_;rintro e w1 ⟨rfl,hb1⟩;have HB1:=zh (HB.out.later hb1);have HO1:=zh (Own.own_later HO.out hb1);have hbz:=HB1.out.size;clear hb1;have hrow:Hid (∀o,(w1.alloc o).ownsRow w.heap.size 48 2 u3 es.length (edC es)):=fun o=>Own.own_later HO1.out (Below.new _ _);go_wp2_with (at_builtin;refine wpList_append_own _ rfl (.tmp 24) (.tmp 28) 44 rfl w.heap.size 48 i0 _ 2 16 Tryz.underlying44 hi hz0 hz1 hz2 rfl (by decide) _ es.length _ rfl (hrow.out _) ⟨_,0,none⟩ 1 1 (edL ((k:Int)+1,(j:Int)+1)) rfl rfl ?c1 ?c2 ?c3 ?c4 ?c5 ?_);case c1=>exact cells_newN _ #[.int .i64 ((k:Int)+1),.int .i64 ((j:Int)+1)] _
           case c2=>simp[Value.oneCell',edL]
           case c3=>unfold maxLen;omega
           case c4=>omega
           case c5=>first | omega | (simp;omega)
           intro v1 w2 hown1 hg1 _;have HBN:=zh (below_own (w0:=w) (HB1.out.later (Below.new _ _)) (hrow.out _) (Nat.le_refl _) hg1);have HON:Hid (w2.ownsRow w.heap.size 48 2 v1 (es++[((k:Int)+1,(j:Int)+1)]).length (edC (es++[((k:Int)+1,(j:Int)+1)]))):=by unfold Hid;rw[edC_snoc,List.length_append,List.length_singleton];exact hown1
           clear hown1 hg1;go_wp2_with fail;go_roundw;case rel=>exact⟨j+1,_,by omega,by go_num,HON.out,by simp;omega,HS4.out,HBN.out⟩
           case measure=>simp[intOf];omega
     · obtain rfl:j=4:=by omega
       have hji:¬((4:Nat):Int)+1≤4:=by omega
       have HN:Hid (G ((k:Int)+1) (four.drop 4)=[]):=HNI.out _;have HS4:Hid (R=es++(four.drop (k+1)).flatMap fun a=>G a four):=by unfold Hid;rw[HS.out,HN.out,HL2.out];rfl
       go_wp2_with fail;go_roundw;case rel=>exact⟨k+1,es,by omega,by go_num,HO.out,by omega,HS4.out,HB.out⟩
       case measure=>simp[intOf];omega
  · obtain rfl:k=4:=by omega
    have hki:¬((4:Nat):Int)+1≤4:=by omega
    have HE:Hid (R=es):=by unfold Hid;rw[HS.out];simp[four]
    go_wp2_with fail;go_ret;exact⟨_,rfl,by rw[HE.out];exact HO.out,HB.out⟩
end Go.Proofs.YtlicffeicmoifaaGreatDoor
