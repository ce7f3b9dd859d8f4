import Derived.Test.YtfpcjhajjejpdaaGreatDoorZ43
import Derived.Test.YtfpcjhajjejpdaaGreatDoorZ22
import Derived.Deep.DeepCutAuto
set_option maxHeartbeats 8000000
open Go.Lib renaming hid → zh
namespace Go.Proofs.YtfpcjhajjejpdaaGreatDoor
open Go.RowKit
set_option linter.unusedVariables false
set_option maxRecDepth 100000 in
theorem zFC (f:Nat) (caps:Array Value) (cmp:List ByteArray→List ByteArray→Int) (lt:List ByteArray→List ByteArray→Bool) (P:List ByteArray→Prop) (w0:World) (hw:Stab.Weak lt) (hlt:∀x y,decide (cmp x y<0)=lt x y) (hc:CmpOk f caps cmp P w0)
 (eg:∀args w,(callFunc f args).run Tryz.prog w=.ok (.enter f args) w) (g n cap:Nat) (hn:n≤1048576):∀(N a m b:Nat) (d:Nat→uM) (w:World),b-a≤N→SrtSt w0 P g n cap w d→a<m→m<b→b≤n→Stab.Srt (ltI lt) (Stab.seg d a m)→Stab.Srt (ltI lt) (Stab.seg d m b) →
 Calls Tryz.prog 202 #[(.slice (some ⟨g,0,none⟩) n cap),.int .i64 a,.int .i64 m,.int .i64 b,.func (.func f) #[] caps] w (zCQ lt P w0 g n cap a m b d):=by
 intro N
 induction N with
 | zero=>intro a m b d w h1 _ h2 h3;omega
 | succ N ih =>
   intro a m b d w hN h ham hmb hbn hX hY;by_cases hA:m=a+1
   · exact zFB f caps cmp lt P w0 hw hlt hc eg g n cap a m b d w h hA hmb hbn hn hY
   by_cases hB:b=m+1
   · exact zEI f caps cmp lt P w0 hw hlt hc eg g n cap a m b d w h (by omega) hB hbn hn hX
   have HW:=zh (zBd hw);have HLT:=zh hlt;have HC:=zh hc;have HS:=zh h;have HX:=zh hX;have HY:=zh hY;have HIH:=zh ih;have e1:(((m:Int)-(a:Int))==1)=false:=by rw[beq_eq_false_iff_ne];omega
   have e2:(((b:Int)-(m:Int))==1)=false:=by rw[beq_eq_false_iff_ne];omega
   have ham2:a+1<m:=by omega
   have hmb2:m+1<b:=by omega
   obtain⟨mid,hmid⟩:∃mid,mid=(a+b) / 2:=⟨_,rfl⟩;have HMid:=zh hmid;have hmid1:a+1<mid:=by omega
   have hmid2:mid<b:=by omega
   have imid:((a:Int)+(b:Int)) / 2=(mid:Int):=by omega
   obtain⟨q,hq⟩:∃q,q=mid+m:=⟨_,rfl⟩;have HQ:=zh hq;have iq:(mid:Int)+(m:Int)=(q:Int):=by omega
   have hqb:q≤2097152:=by omega
   obtain⟨p,hp⟩:∃p,q=p+1:=⟨q-1,by omega⟩;have HP:=zh hp;have ip:(q:Int)-1=(p:Int):=by omega
   obtain⟨lo,hlo0⟩:∃lo,lo=if m>mid then mid+m-b else a:=⟨_,rfl⟩
   obtain⟨hi,hhi0⟩:∃hi,hi=if m>mid then mid else m:=⟨_,rfl⟩
   have HLo:=zh hlo0;have HHi:=zh hhi0;have hlh:a≤lo∧lo≤hi∧hi≤p∧p-lo<n∧hi≤m∧hi≤mid:=by split at hlo0 <;> split at hhi0 <;> omega
   obtain⟨b1,b2,b3,b4,b5,b6⟩:=hlh;clear hw hlt hc h hX hY ih hA hB hmid hq hp;go_enter Tryz.func202,Tryz.ntmps202
   go_upto_if 140 with fail
   go_cut [20,21] (fun u v wx=>u=.int .i64 (lo:Nat)∧v=.int .i64 (hi:Nat)∧wx=w)
   case first=>as_aux_lemma =>
    by_cases hmm:m>mid
    · rw[if_pos hmm]at hlo0 hhi0;have ilo:(q:Int)-(b:Int)=(lo:Int):=by have:=HQ.out;omega
      have hz:(mid:Int)<(m:Int):=by omega
      go_wp2_with fail
      go_meet
      case rel=>exact⟨by rw[hlo0],by rw[hhi0],rfl⟩
    · rw[if_neg hmm]at hlo0 hhi0;have hz:(m:Int)≤(mid:Int):=by omega
      go_wp2_with fail
      go_meet
      case rel=>exact⟨by rw[hlo0],by rw[hhi0],rfl⟩
   case rest=>as_aux_lemma =>
   obtain⟨rfl,rfl,rfl⟩:=hcut;clear hlo0 hhi0;go_wp2_with fail;go_loopw [20,21] (fun u v wr=>∃(x y:Nat),lo≤x∧x≤y∧y≤hi∧u=.int .i64 x∧v=.int .i64 y∧Hid (SrtSt w0 P g n cap wr d)∧Hid (x=lo∨ltI lt (d (mid+m-1-(x-1))) (d (x-1))=false)∧Hid (y=hi∨ltI lt (d (mid+m-1-y)) (d y)=true)) (fun u v _=>(intOf v).toNat-(intOf u).toNat);case atStart=>exact⟨lo,hi,Nat.le_refl _,b2,Nat.le_refl _,rfl,rfl,HS.out,.inl rfl,.inl rfl⟩
   case round=>as_aux_lemma =>
    obtain⟨x,y,hlx,hxy,hyh,rfl,rfl,HST,hlo,hhi⟩:=hrel;by_cases hl:x<y
    · obtain⟨c,hc⟩:∃c:Nat,c=(x+y) / 2:=⟨_,rfl⟩;have hxc:x≤c:=by omega
      have hcy:c<y:=by omega
      have hI:((x:Int)+(y:Int)) / 2=(c:Int):=by omega
      obtain⟨r,hr⟩:∃r,r=p-c:=⟨_,rfl⟩;have ir:(p:Int)-(c:Int)=(r:Int):=by omega
      have hrn:r<n:=by omega
      have hcn:c<n:=by omega
      have HR:Hid (mid+m-1-c=r):=by have h1:=HP.out;have h2:=HQ.out;unfold Hid;omega
      clear hc hr;have rw1:IntKind.i64.wrap (r:Int)=(r:Int):=IntWalk.i64_in _ (by omega);have rw2:(0:Int)≤(r:Int):=by omega
      have rw3:((r:Int)).toNat=r:=by omega
      have rw4:(r:Int)<(n:Int):=by omega
      have rw5:r<n:=by omega
      have cw1:IntKind.i64.wrap (c:Int)=(c:Int):=IntWalk.i64_in _ (by omega);have cw2:(0:Int)≤(c:Int):=by omega
      have cw3:((c:Int)).toNat=c:=by omega
      have cw4:(c:Int)<(n:Int):=by omega
      have cw5:c<n:=by omega
      have x1:=HST.out.row.at (show r<n by omega);have x2:=HST.out.row.at (show c<n by omega);have HK:=zh (fun W (hW:Below wr.heap.size wr W)=>HC.out.at HST.out.good (HST.out.below.later hW) (show r<n by omega) (show c<n by omega));have HLt:=zh (zBq HLT.out (d r) (d c));obtain⟨A1,l1,c1,f1⟩:=HST.out.good.val (show r<n by omega);obtain⟨A2,l2,c2,f2⟩:=HST.out.good.val (show c<n by omega);rw[f1]at x1 HK;rw[f2]at x2 HK;have HSL:Hid (∀W,Below wr.heap.size wr W→SrtSt w0 P g n cap W d):=fun W hW=>HST.out.later hW;have HRd:Hid (∀W',Below wr.heap.size wr W'→(W'.cell? ⟨g,r,none⟩=some (.slice A1 l1 c1)∧W'.cell? ⟨g,c,none⟩=some (.slice A2 l2 c2))):=fun W' hW=>⟨cell_later hW x1,cell_later hW x2⟩;clear f1 f2;generalize cmp (d r).2 (d c).2=cv at *;by_cases hcv:cv<0
      · have HL2:=zh (HLt.out.1 hcv);have i3:decide (cv<0)=true:=by simp;omega
        go_wp2_with fail
        go_region_held3 (fun W'=>W'.cell? ⟨g,r,none⟩=some (.slice A1 l1 c1)∧W'.cell? ⟨g,c,none⟩=some (.slice A2 l2 c2))
         (first | exact HRd.out _ hb1 | exact HRd.out _ (Below.refl wr.heap.size wr).drew)
         (first | (go_at_fn f;refine(HK.out _ (by exact(Below.refl wr.heap.size wr).drew)).mono ?_;rintro e w1 ⟨rfl,hb1'⟩;have hb1:=xC hb1';clear hb1'))
        have HS1:=zh (HSL.out _ hb1);clear hb1 x1 x2 HRd HSL HK HST;go_wp2_with fail;go_roundw;case rel=>exact⟨x,c,hlx,hxc,by omega,rfl,rfl,HS1.out,hlo.out,.inr (by rw[HR.out];exact HL2.out)⟩
        case measure=>simp[intOf];omega
      · have HL2:=zh (HLt.out.2 (by omega));have i1:(0:Int)≤cv:=by omega
        have i3:decide (cv<0)=false:=by simp;omega
        go_wp2_with fail
        go_region_held3 (fun W'=>W'.cell? ⟨g,r,none⟩=some (.slice A1 l1 c1)∧W'.cell? ⟨g,c,none⟩=some (.slice A2 l2 c2))
         (first | exact HRd.out _ hb1 | exact HRd.out _ (Below.refl wr.heap.size wr).drew)
         (first | (go_at_fn f;refine(HK.out _ (by exact(Below.refl wr.heap.size wr).drew)).mono ?_;rintro e w1 ⟨rfl,hb1'⟩;have hb1:=xC hb1';clear hb1'))
        have HS1:=zh (HSL.out _ hb1);clear hb1 x1 x2 HRd HSL HK HST;go_wp2_with fail;go_roundw;case rel=>exact⟨c+1,y,by omega,by omega,hyh,by go_num,rfl,HS1.out,.inr (by rw[Nat.add_sub_cancel,HR.out];exact HL2.out),hhi.out⟩
        case measure=>simp[intOf];omega
    · obtain rfl:x=y:=by omega
      obtain⟨stop,hstop⟩:∃stop,stop=q-x:=⟨_,rfl⟩;have is:(q:Int)-(x:Int)=(stop:Int):=by omega
      obtain⟨q1,q2,q3,q4,q5,q6,hM⟩:=Stab.sym_cut HW.out HX.out HY.out HMid.out (start:=x) (stop:=stop) (lo:=lo) (hi:=hi) (by have h1:=HQ.out;omega) hlx hyh HLo.out HHi.out hlo.out hhi.out;have HM:=zh hM;have HSS:Hid (x+stop=mid+m):=by have h1:=HQ.out;unfold Hid;omega
      have HParts:=zh (Stab.rot_srt HX.out HY.out q1 q2 q3 q4 q5 q6 HSS.out);clear hM hstop hlo hhi;obtain⟨WX,rfl⟩:∃WX,WX=wr:=⟨wr,rfl⟩;obtain⟨bb,hbb⟩:∃bb:Bool,bb=(decide (x<m)&&decide (m<stop)):=⟨_,rfl⟩
      go_upto_region 39 with fail
      go_cut [185] (fun v wx=>v=.bool bb∧wx=WX)
      case first=>as_aux_lemma =>
       by_cases r1:x<m
       · by_cases r2:m<stop
         · have z1:(x:Int)<(m:Int):=by omega
           have z2:(m:Int)<(stop:Int):=by omega
           go_wp2_with fail
           go_meet
           case rel=>exact⟨by rw[hbb,decide_eq_true r1,decide_eq_true r2];rfl,rfl⟩
         · have z1:(x:Int)<(m:Int):=by omega
           have z2:(stop:Int)≤(m:Int):=by omega
           have z3:decide ((m:Int)<(stop:Int))=false:=by simp;omega
           go_wp2_with fail
           go_meet
           case rel=>exact⟨by rw[hbb,decide_eq_true r1,decide_eq_false r2];rfl,rfl⟩
       · have z1:(m:Int)≤(x:Int):=by omega
         have z3:decide ((x:Int)<(m:Int))=false:=by simp;omega
         go_wp2_with fail
         go_meet
         case rel=>exact⟨by rw[hbb,decide_eq_false r1];rfl,rfl⟩
      case rest=>as_aux_lemma =>
      obtain⟨rfl,rfl⟩:=hcut;obtain⟨WX,rfl⟩:∃WX,WX=wc:=⟨wc,rfl⟩
      go_upto_if 185 with fail
      go_cut [24] (fun v wx=>v=.int .i64 (stop:Nat)∧Hid (SrtSt w0 P g n cap wx (Stab.rot d x m stop)))
      case first=>as_aux_lemma =>
       cases bb
       · have HS1:Hid (SrtSt w0 P g n cap WX (Stab.rot d x m stop)):=by unfold Hid;rw[Stab.rot_id d q2 q3 (fun h=>by rw[decide_eq_true h.1,decide_eq_true h.2]at hbb;cases hbb)];exact HST.out
         clear hbb;go_wp2_with fail
         go_meet
         case rel=>exact⟨rfl,HS1.out⟩
       · have r1:x<m∧m<stop:=by simpa using hbb.symm
         clear hbb;have HK:=zh (zHO f caps P w0 g n cap x m stop d _ HST.out r1.1 r1.2 (by omega) hn);go_wp2_with fail;refine HK.out.mono ?_;rintro e w1 ⟨rfl,hS1⟩;have HS1:=zh hS1;clear hS1;go_wp2_with fail
         go_meet
         case rel=>exact⟨rfl,HS1.out⟩
      case rest=>as_aux_lemma =>
      obtain⟨rfl,HS1⟩:=hcut;obtain⟨W1,rfl⟩:∃W1,W1=wc:=⟨wc,rfl⟩;obtain⟨d1,hd1⟩:∃d1,d1=Stab.rot d x m stop:=⟨_,rfl⟩;have HD1:=zh hd1;rw[←hd1]at HS1 HParts;clear hd1 hbb;obtain⟨bc,hbc⟩:∃bc:Bool,bc=(decide (a<x)&&decide (x<mid)):=⟨_,rfl⟩
      go_upto_region 41 with fail
      go_cut [199] (fun v wx=>v=.bool bc∧wx=W1)
      case first=>as_aux_lemma =>
       by_cases r1:a<x
       · by_cases r2:x<mid
         · have z1:(a:Int)<(x:Int):=by omega
           have z2:(x:Int)<(mid:Int):=by omega
           go_wp2_with fail
           go_meet
           case rel=>exact⟨by rw[hbc,decide_eq_true r1,decide_eq_true r2];rfl,rfl⟩
         · have z1:(a:Int)<(x:Int):=by omega
           have z2:(mid:Int)≤(x:Int):=by omega
           have z3:decide ((x:Int)<(mid:Int))=false:=by simp;omega
           go_wp2_with fail
           go_meet
           case rel=>exact⟨by rw[hbc,decide_eq_true r1,decide_eq_false r2];rfl,rfl⟩
       · have z1:(x:Int)≤(a:Int):=by omega
         have z3:decide ((a:Int)<(x:Int))=false:=by simp;omega
         go_wp2_with fail
         go_meet
         case rel=>exact⟨by rw[hbc,decide_eq_false r1];rfl,rfl⟩
      case rest=>as_aux_lemma =>
      obtain⟨rfl,rfl⟩:=hcut;obtain⟨W1,rfl⟩:∃W1,W1=wc:=⟨wc,rfl⟩
      go_upto_if 199 with fail
      go_cut [24] (fun v wx=>v=.int .i64 (stop:Nat)∧∃d2,Hid (SrtSt w0 P g n cap wx d2)∧Hid (Stab.Same d1 d2 a mid)∧Hid (Stab.seg d2 a mid=Stab.mrg (ltI lt) (Stab.seg d1 a x) (Stab.seg d1 x mid)))
      case first=>as_aux_lemma =>
       cases bc
       · have HE:=zh (Stab.one_mrg_nil (lt:=ltI lt) d1 q1 q5 (fun h=>by rw[decide_eq_true h.1,decide_eq_true h.2]at hbc;cases hbc));clear hbc;go_wp2_with fail
         go_meet
         case rel=>exact⟨rfl,d1,HS1.out,Stab.Same.refl _ _ _,HE.out⟩
       · have r1:a<x∧x<mid:=by simpa using hbc.symm
         clear hbc;have HK:=zh (HIH.out a x mid d1 _ (by omega) HS1.out r1.1 r1.2 (by omega) HParts.out.1 HParts.out.2.1);go_wp2_with fail;refine HK.out.mono ?_;rintro e w1 ⟨rfl,d2,hS2,hSame,hE⟩;have HS2:=zh hS2;have HSame:=zh hSame;have HE:=zh hE;clear hS2 hSame hE;go_wp2_with fail
         go_meet
         case rel=>exact⟨rfl,d2,HS2.out,HSame.out,HE.out⟩
      case rest=>as_aux_lemma =>
      obtain⟨rfl,d2,HS2,HSame2,HE2⟩:=hcut;obtain⟨W2,rfl⟩:∃W2,W2=wc:=⟨wc,rfl⟩;clear hbc
      have HP2:Hid (Stab.Srt (ltI lt) (Stab.seg d2 mid stop)∧Stab.Srt (ltI lt) (Stab.seg d2 stop b)):=by
       refine⟨?_,?_⟩
       · rw[Stab.seg_congr (d':=d1) (fun t t1 t2=>HSame2.out t (by omega))];exact HParts.out.2.2.1
       · rw[Stab.seg_congr (d':=d1) (fun t t1 t2=>HSame2.out t (by omega))];exact HParts.out.2.2.2
      have HJoin:Hid (∀d3,Stab.Same d2 d3 mid b→Stab.seg d3 mid b=Stab.mrg (ltI lt) (Stab.seg d2 mid stop) (Stab.seg d2 stop b)→Stab.Same d d3 a b∧Stab.seg d3 a b=Stab.mrg (ltI lt) (Stab.seg d a m) (Stab.seg d m b)):=fun d3 h1 h2=>by have h3:=HSame2.out;have h4:=HE2.out;rw[HD1.out]at h3 h4;exact Stab.sym_join q1 q2 q3 q4 q5 q6 HSS.out HM.out h3 h4 h1 h2
      obtain⟨bd,hbd⟩:∃bd:Bool,bd=(decide (mid<stop)&&decide (stop<b)):=⟨_,rfl⟩
      go_upto_region 43 with fail
      go_cut [213] (fun v wx=>v=.bool bd∧wx=W2)
      case first=>as_aux_lemma =>
       by_cases r1:mid<stop
       · by_cases r2:stop<b
         · have z1:(mid:Int)<(stop:Int):=by omega
           have z2:(stop:Int)<(b:Int):=by omega
           go_wp2_with fail
           go_meet
           case rel=>exact⟨by rw[hbd,decide_eq_true r1,decide_eq_true r2];rfl,rfl⟩
         · have z1:(mid:Int)<(stop:Int):=by omega
           have z2:(b:Int)≤(stop:Int):=by omega
           have z3:decide ((stop:Int)<(b:Int))=false:=by simp;omega
           go_wp2_with fail
           go_meet
           case rel=>exact⟨by rw[hbd,decide_eq_true r1,decide_eq_false r2];rfl,rfl⟩
       · have z1:(stop:Int)≤(mid:Int):=by omega
         have z3:decide ((mid:Int)<(stop:Int))=false:=by simp;omega
         go_wp2_with fail
         go_meet
         case rel=>exact⟨by rw[hbd,decide_eq_false r1];rfl,rfl⟩
      case rest=>as_aux_lemma =>
      obtain⟨rfl,rfl⟩:=hcut;obtain⟨W2,rfl⟩:∃W2,W2=wc:=⟨wc,rfl⟩;cases bd
      · have HE:=zh (HJoin.out d2 (Stab.Same.refl _ _ _) (Stab.one_mrg_nil (lt:=ltI lt) d2 q6 q4 (fun h=>by rw[decide_eq_true h.1,decide_eq_true h.2]at hbd;cases hbd)));clear hbd;go_wp2_with fail
        go_end0
        exact⟨rfl,d2,HS2.out,HE.out.1,HE.out.2⟩
      · have r1:mid<stop∧stop<b:=by simpa using hbd.symm
        clear hbd;have HK:=zh (HIH.out mid stop b d2 _ (by omega) HS2.out r1.1 r1.2 (by omega) HP2.out.1 HP2.out.2);go_wp2_with fail;refine HK.out.mono ?_;rintro e w1 ⟨rfl,d3,hS3,hSame,hE⟩;have HS3:=zh hS3;have HE:=zh (HJoin.out d3 hSame hE);clear hS3 hSame hE;go_wp2_with fail
        go_end0
        exact⟨rfl,d3,HS3.out,HE.out.1,HE.out.2⟩
end Go.Proofs.YtfpcjhajjejpdaaGreatDoor
namespace Go.Proofs.YtfpcjhajjejpdaaGreatDoor
open Go.RowKit
set_option linter.unusedVariables false
def zEA (lt:List ByteArray→List ByteArray→Bool) (P:List ByteArray→Prop) (w0:World) (g n cap:Nat) (d:Nat→uM) (e:Ending) (w':World):Prop:=e=.returned (.tuple #[])∧∃d',SrtSt w0 P g n cap w' d'∧Stab.seg d' 0 n=Stab.srt (ltI lt) (Stab.seg d 0 n)
set_option maxRecDepth 100000 in
theorem zHH (f:Nat) (caps:Array Value) (cmp:List ByteArray→List ByteArray→Int) (lt:List ByteArray→List ByteArray→Bool) (P:List ByteArray→Prop) (w0:World) (hw:Stab.Weak lt) (hlt:∀x y,decide (cmp x y<0)=lt x y) (hc:CmpOk f caps cmp P w0)
 (eg:∀args w,(callFunc f args).run Tryz.prog w=.ok (.enter f args) w) (g n cap:Nat) (hn:n≤24) (d:Nat→uM) (w:World) (h:SrtSt w0 P g n cap w d) :
 Calls Tryz.prog 167 #[.slice (some ⟨g,0,none⟩) n cap,.int .i64 n,.func (.func f) #[] caps] w (zEA lt P w0 g n cap d):=by
 have HI:=zh (fun a b d' W (hS:SrtSt w0 P g n cap W d') (hab:a≤b) (hbn:b≤n)=>zES f caps cmp lt P w0 hw hlt hc eg g n cap a b d' W hS hab hbn (by omega));have HM:=zh (fun a m b d' W (hS:SrtSt w0 P g n cap W d') (h1:a<m) (h2:m<b) (h3:b≤n) hX hY=>zFC f caps cmp lt P w0 hw hlt hc eg g n cap (by omega) (b-a) a m b d' W (Nat.le_refl _) hS h1 h2 h3 hX hY);have HS:=zh h;have HW:=zh (zBd hw);clear hw hlt hc h;have hcase:n<20∨n=20∨20<n:=by omega
 go_enter Tryz.func167,Tryz.ntmps167;rcases hcase with hx | hx | hx
 · have z1:(n:Int)<20:=by omega
   have HK:=zh (HI.out 0 n d _ HS.out (Nat.zero_le _) (Nat.le_refl _));go_wp2_with fail;refine wp_loop_rounds 1 ?_;rw[rounds_succ];go_wp2_with fail;refine HK.out.mono ?_;rintro e w1 ⟨rfl,d1,hS1,_,hE1⟩;have HS1:=zh hS1;have HE1:=zh hE1;clear hS1 hE1;go_wp2_with fail;refine wp_loop_rounds 1 ?_;rw[rounds_succ];go_wp2_with fail
   go_end0
   exact⟨rfl,d1,HS1.out,HE1.out⟩
 · subst hx;have HK:=zh (HI.out 0 20 d _ HS.out (Nat.zero_le _) (Nat.le_refl _));go_wp2_with fail;refine wp_loop_rounds 2 ?_;rw[rounds_succ];go_wp2_with fail;refine HK.out.mono ?_;rintro e w1 ⟨rfl,d1,hS1,_,hE1⟩;have HE1:=zh hE1;have HK2:=zh (HI.out 20 20 d1 _ hS1 (Nat.le_refl _) (Nat.le_refl _));clear hS1 hE1;go_wp2_with fail;rw[rounds_succ];go_wp2_with fail;refine HK2.out.mono ?_;rintro e w2 ⟨rfl,d2,hS2,hSame,_⟩;have HS2:=zh hS2;have HE2:Hid (Stab.seg d2 0 20=Stab.srt (ltI lt) (Stab.seg d 0 20)):=by unfold Hid;rw[←HE1.out];exact Stab.seg_congr fun t t1 t2=>hSame t (by omega)
   clear hS2 hSame;go_wp2_with fail;refine wp_loop_rounds 1 ?_;rw[rounds_succ];go_wp2_with fail
   go_end0
   exact⟨rfl,d2,HS2.out,HE2.out⟩
 · have z1:(20:Int)<(n:Int):=by omega
   have z2:(20:Int)≤(n:Int):=by omega
   have z3:(n:Int)<40:=by omega
   have HK:=zh (HI.out 0 20 d _ HS.out (Nat.zero_le _) (by omega));go_wp2_with fail;refine wp_loop_rounds 2 ?_;rw[rounds_succ];go_wp2_with fail;refine HK.out.mono ?_;rintro e w1 ⟨rfl,d1,hS1,hSame1,hE1⟩;have HE1:=zh hE1;have HSm1:=zh hSame1;have HK2:=zh (HI.out 20 n d1 _ hS1 (by omega) (Nat.le_refl _));clear hS1 hE1 hSame1;go_wp2_with fail;rw[rounds_succ];go_wp2_with fail;refine HK2.out.mono ?_;rintro e w2 ⟨rfl,d2,hS2,hSame2,hE2⟩;have hA:Stab.seg d2 0 20=Stab.srt (ltI lt) (Stab.seg d 0 20):=by rw[←HE1.out];exact Stab.seg_congr fun t t1 t2=>hSame2 t (by omega)
   have hB:Stab.seg d2 20 n=Stab.srt (ltI lt) (Stab.seg d 20 n):=by rw[hE2];congr 1;exact Stab.seg_congr fun t t1 t2=>HSm1.out t (by omega)
   have HK3:=zh (HM.out 0 20 n d2 _ hS2 (by omega) (by omega) (Nat.le_refl _) (by rw[hA];exact Stab.srt_srt HW.out _) (by rw[hB];exact Stab.srt_srt HW.out _));have HEnd:Hid (Stab.mrg (ltI lt) (Stab.seg d2 0 20) (Stab.seg d2 20 n)=Stab.srt (ltI lt) (Stab.seg d 0 n)):=by unfold Hid;rw[hA,hB,←Stab.srt_append HW.out,←Stab.seg_split d (by omega) (by omega)]
   clear hS2 hSame2 hE2 hA hB;go_wp2_with fail;refine wp_loop_rounds 2 ?_;rw[rounds_succ];go_wp2_with fail;refine wp_loop_rounds 1 ?_;rw[rounds_succ];go_wp2_with fail;refine HK3.out.mono ?_;rintro e w3 ⟨rfl,d3,hS3,_,hE3⟩;have HS3:=zh hS3;have HE3:Hid (Stab.seg d3 0 n=Stab.srt (ltI lt) (Stab.seg d 0 n)):=by unfold Hid;rw[hE3,HEnd.out]
   clear hS3 hE3;go_wp2_with fail;rw[rounds_succ];go_wp2_with fail
   go_end0
   exact⟨rfl,d3,HS3.out,HE3.out⟩
set_option maxRecDepth 100000 in
theorem zEB (f:Nat) (caps:Array Value) (cmp:List ByteArray→List ByteArray→Int) (lt:List ByteArray→List ByteArray→Bool) (P:List ByteArray→Prop) (w0:World) (hw:Stab.Weak lt) (hlt:∀x y,decide (cmp x y<0)=lt x y) (hc:CmpOk f caps cmp P w0)
 (eg:∀args w,(callFunc f args).run Tryz.prog w=.ok (.enter f args) w) (g n cap:Nat) (hn:n≤24) (d:Nat→uM) (w:World) (h:SrtSt w0 P g n cap w d) :
 Calls Tryz.prog 112 #[.slice (some ⟨g,0,none⟩) n cap,.func (.func f) #[] caps] w (zEA lt P w0 g n cap d):=by
 have HK:=zh (zHH f caps cmp lt P w0 hw hlt hc eg g n cap hn d w h);clear hw hlt hc h eg;go_enter Tryz.func112,Tryz.ntmps112;go_wp2_with fail;refine HK.out.mono ?_;rintro e w1 ⟨rfl,d1,hS1,hE1⟩;have HS1:=zh hS1;have HE1:=zh hE1;clear hS1 hE1;go_wp2_with fail
 go_end0
 exact⟨rfl,d1,HS1.out,HE1.out⟩
end Go.Proofs.YtfpcjhajjejpdaaGreatDoor
namespace Go.Proofs.YtfpcjhajjejpdaaGreatDoor
open Go.RowKit
theorem RowR.same {w:World} {B:Nat} {v:Value} {x y:List ByteArray} (h:RowR w B v x) (h':RowR w B v y):x=y:=by
 obtain⟨A,n,c,rfl,s,_⟩:=h;obtain⟨A',n',c',e,s',_⟩:=h';injection e with e1 e2 e3;subst e1 e2 e3;apply List.ext_getElem (by rw[s.1,s'.1]);intro i h1 h2;have hi:i<n:=by rw[←s.1];exact h1
 obtain⟨b,o,rfl,_,hc⟩:=s.2 (by omega);obtain⟨b',o',e,_,hc'⟩:=s'.2 (by omega);injection e with e;injection e with e1 e2;subst e1 e2;have h3:=(hc i hi).symm.trans (hc' i hi);rw[List.getD_eq_getElem?_getD,List.getElem?_eq_getElem h1,List.getD_eq_getElem?_getD,List.getElem?_eq_getElem h2]at h3;simpa using h3
set_option maxRecDepth 100000 in
theorem zGp (bk qk:Nat) (b0 b1 b2 b3 c0 c1 c2 c3 c4 c5 x0 y0:Value) (b:TableD) (d:QueryD) (x y:List ByteArray) (kk:Nat) (w:World) (htab:zU0 w) (hkb:Blk w bk 29 #[b0,b1,b2,b3]) (hkq:Blk w qk 32 #[c0,c1,c2,c3,c4,c5]) (hb:TableR w w.heap.size b0 b1 b2 b3 b) (h:QueryR w w.heap.size c0 c1 c2 c3 c4 c5 d) (hx:RowR w w.heap.size x0 x) (hy:RowR w w.heap.size y0 y)
 (hbs:b.small) (hxs:yH x) (hys:yH y) (hp:xA b.cols d.order=kk) (hxk:kk<x.length) (hyk:kk<y.length) :
 Calls Tryz.prog 113 #[.agg #[x0],.agg #[y0],.pointer (some ⟨bk,0,none⟩),.pointer (some ⟨qk,0,none⟩)] w fun e w'=>e=.returned (.int .i64 (zIr d.desc kk x y))∧Below w.heap.size w w':=by
 obtain⟨F,hFx,hFy⟩:∃F:Value→ByteArray,F x0=x.getD kk ByteArray.empty∧F y0=y.getD kk ByteArray.empty:=by
  by_cases e:x0=y0
  · subst e;rw[hx.same hy];exact⟨fun _=>y.getD kk ByteArray.empty,rfl,rfl⟩
  · classical
    exact⟨fun v=>if v=x0 then x.getD kk ByteArray.empty else y.getD kk ByteArray.empty,if_pos rfl,if_neg (fun h:y0=x0=>e h.symm)⟩
 have HK2:Hid (∀W,Below w.heap.size w W→∀r0,r0=x0∨r0=y0→Calls Tryz.prog 85 #[.agg #[b0,b1,b2,b3],.agg #[r0],.string d.order] W fun e w'=>e=.returned (.string (F r0))∧Below W.heap.size W w'):=fun W hW r0 hr0=>by
  rcases hr0 with rfl | rfl
  · rw[hFx];exact zCk b0 b1 b2 b3 _ b x d.order kk W (hb.later hW) (hx.later hW) hbs hp hxk
  · rw[hFy];exact zCk b0 b1 b2 b3 _ b y d.order kk W (hb.later hW) (hy.later hW) hbs hp hyk
 have HKc:=zh (fun W (hW:Below w.heap.size w W)=>zBj (x.getD kk ByteArray.empty) (y.getD kk ByteArray.empty) W (yF htab hW) (hxs.2 _ (xE x kk hxk)) (hys.2 _ (xE y kk hyk)));rw[←hFx,←hFy]at HKc;have HR:Hid (zIr d.desc kk x y=if d.desc=true then -(uU (x.getD kk ByteArray.empty) (y.getD kk ByteArray.empty)) else uU (x.getD kk ByteArray.empty) (y.getD kk ByteArray.empty)):=rfl;have hbd:=zLs (x.getD kk ByteArray.empty) (y.getD kk ByteArray.empty);rw[←hFx,←hFy]at HR hbd;obtain⟨rfl,rfl,⟨A2,n2,p2,rfl,s2,k2⟩,⟨A3,n3,p3,rfl,s3,k3⟩⟩:=hb;obtain⟨rfl,⟨B1,m1,q1,rfl,t1,l1⟩,⟨B2,m2,q2,rfl,t2,l2⟩,rfl,rfl,rfl⟩:=h;obtain⟨R0,rn,rc,rfl,_,_⟩:=hx;obtain⟨S0,sn,sc,rfl,_,_⟩:=hy;have HKB:=zh hkb;have HKQ:=zh hkq;have HB0:=zh ((Below.new w (.cells #[.slice R0 rn rc] 40)).later (Below.new _ (.cells #[.slice S0 sn sc] 40)));obtain⟨WB,hWB⟩:∃WB,WB=(w.alloc (.cells #[.slice R0 rn rc] 40)).alloc (.cells #[.slice S0 sn sc] 40):=⟨_,rfl⟩;have HX0:Hid (Blk WB w.heap.size 40 #[.slice R0 rn rc]):=by subst hWB;exact zC0 _ _ _
 have HX1:Hid (Blk WB (w.heap.size+1) 40 #[.slice S0 sn sc]):=by subst hWB;exact uB _ _ _
 have HBB:Hid (Below w.heap.size w WB):=by subst hWB;exact HB0.out
 have hbk:=hkb.lt;have hqk:=hkq.lt;have HRd:Hid (∀W',Below WB.heap.size WB W'→(W'.cell? ⟨bk,0,none⟩=some (.string b.name)∧W'.cell? ⟨bk,1,none⟩=some (.string b.glob)∧W'.cell? ⟨bk,2,none⟩=some (.slice A2 n2 p2)∧W'.cell? ⟨bk,3,none⟩=some (.slice A3 n3 p3)∧W'.cell? ⟨qk,3,none⟩=some (.string d.order)∧W'.cell? ⟨qk,4,none⟩=some (.bool d.desc)∧W'.cell? ⟨w.heap.size,0,none⟩=some (.slice R0 rn rc)∧W'.cell? ⟨w.heap.size+1,0,none⟩=some (.slice S0 sn sc))):=fun W' hW=>by have e1:=HKB.out.later (HBB.out.later hW) hbk;have e2:=HKQ.out.later (HBB.out.later hW) hqk;have e3:=HX0.out.later hW HX0.out.lt;have e4:=HX1.out.later hW HX1.out.lt;exact⟨(e1.cell 0).trans rfl,(e1.cell 1).trans rfl,(e1.cell 2).trans rfl,(e1.cell 3).trans rfl,(e2.cell 3).trans rfl,(e2.cell 4).trans rfl,(e3.cell 0).trans rfl,(e4.cell 0).trans rfl⟩
 clear s2 s3 t1 t2 hkb hkq hbs hxs hys htab hp hxk hyk;generalize zIr d.desc kk x y=R at *;generalize uU (F (.slice R0 rn rc)) (F (.slice S0 sn sc))=o at *;clear hFx hFy;go_enter Tryz.func113,Tryz.ntmps113;go_wp2_with fail;rw[←hWB];clear hWB HB0;obtain⟨z0,z1,z2,z3,z4,z5,z6,z7⟩:=HRd.out _ (Below.refl _ _)
 go_region_held3 (fun W'=>W'.cell? ⟨bk,0,none⟩=some (.string b.name)∧W'.cell? ⟨bk,1,none⟩=some (.string b.glob)∧W'.cell? ⟨bk,2,none⟩=some (.slice A2 n2 p2)∧W'.cell? ⟨bk,3,none⟩=some (.slice A3 n3 p3)∧W'.cell? ⟨qk,3,none⟩=some (.string d.order)∧W'.cell? ⟨qk,4,none⟩=some (.bool d.desc)∧W'.cell? ⟨w.heap.size,0,none⟩=some (.slice R0 rn rc)∧W'.cell? ⟨w.heap.size+1,0,none⟩=some (.slice S0 sn sc))
  (first | exact HRd.out _ hb3 | exact HRd.out _ hb2 | exact HRd.out _ hb1 | exact HRd.out _ (Below.refl WB.heap.size WB).drew)
  (first
    | (go_at_call 114;refine(HKc.out _ (by exact HBB.out.later hb2)).mono ?_;rintro e w3 ⟨rfl,hb3'⟩;have hb3:=hb2.later hb3';clear hb3')
    | (go_at_call 85;refine(HK2.out _ (by exact HBB.out.later hb1) _ (by first | exact Or.inl rfl | exact Or.inr rfl)).mono ?_;rintro e w2 ⟨rfl,hb2'⟩;have hb2:=hb1.later hb2';clear hb2')
    | (go_at_call 85;refine(HK2.out _ (by exact HBB.out.drew) _ (by first | exact Or.inl rfl | exact Or.inr rfl)).mono ?_;rintro e w1 ⟨rfl,hb1'⟩;have hb1:=xC hb1';clear hb1'))
 all_goals
  as_aux_lemma =>
   obtain⟨z0,z1,z2,z3,z4,z5,z6,z7⟩:=HRd.out _ hb3;have HB3:=zh (HBB.out.later hb3);have hqz:=(HKQ.out.later HB3.out hqk).lt;clear hb1 hb2 hb3;generalize d.desc=ds at *;cases ds
   · have HE:Hid (R=o):=by unfold Hid;rw[HR.out];rfl
     go_wp2_with fail;go_ret;exact⟨vB HE.out.symm,HB3.out⟩
   · have HE:Hid (R=-o):=by unfold Hid;rw[HR.out];rfl
     go_wp2_with fail;go_ret;exact⟨vB (by rw[HE.out];try exact(IntWalk.i64_in _ (by omega)).symm),HB3.out⟩
end Go.Proofs.YtfpcjhajjejpdaaGreatDoor
