import Derived.Test.YtfpcjhajjejpdaaGreatDoorY43
import Derived.Deep.DeepCutAuto
set_option maxHeartbeats 8000000
open Go.Lib renaming hid → zh
namespace Go.Proofs.YtfpcjhajjejpdaaGreatDoor
open Go.RowKit
set_option linter.unusedVariables false
def zDH (lt:List ByteArray→List ByteArray→Bool) (P:List ByteArray→Prop) (w0:World) (g n cap a m b:Nat) (d:Nat→uP) (e:Ending) (w':World):Prop:=e=.returned (.tuple #[])∧∃d',SrtSt w0 P g n cap w' d'∧Stab.Same d d' a b∧Stab.seg d' a b=Stab.mrg (ltI lt) (Stab.seg d a m) (Stab.seg d m b)
set_option maxRecDepth 100000 in
theorem zGP (f:Nat) (caps:Array Value) (cmp:List ByteArray→List ByteArray→Int) (lt:List ByteArray→List ByteArray→Bool) (P:List ByteArray→Prop) (w0:World) (hw:Stab.Weak lt) (hlt:∀x y,decide (cmp x y<0)=lt x y) (hc:CmpOk f caps cmp P w0)
 (eg:∀args w,(callFunc f args).run Tryz.prog w=.ok (.enter f args) w) (g n cap a m b:Nat) (d:Nat→uP) (w:World) (h:SrtSt w0 P g n cap w d) (ha:m=a+1) (hmb:m<b) (hbn:b≤n) (hn:n≤1048576) (hY:Stab.Srt (ltI lt) (Stab.seg d m b)) :
 Calls Tryz.prog 202 #[(.slice (some ⟨g,0,none⟩) n cap),.int .i64 a,.int .i64 m,.int .i64 b,.func (.func f) #[] caps] w (zDH lt P w0 g n cap a m b d):=by
 have HW:=zh (zBX hw);have HLT:=zh hlt;have HC:=zh hc;have HS:=zh h;have HY:=zh hY;have e1:(m:Int)-(a:Int)=1:=by omega
 have ham:a<m:=by omega
 have HA:=zh ha;clear hw hlt hc h hY ha;go_enter Tryz.func202,Tryz.ntmps202;go_wp2_with fail;go_loopw [10,11] (fun i j wr=>∃(x y:Nat),m≤x∧x≤y∧y≤b∧i=.int .i64 x∧j=.int .i64 y∧Hid (SrtSt w0 P g n cap wr d)∧Hid (x=m∨ltI lt (d (x-1)) (d a)=true)∧Hid (y=b∨ltI lt (d y) (d a)=false)) (fun i j _=>(intOf j).toNat-(intOf i).toNat);case atStart=>exact⟨m,b,Nat.le_refl _,by omega,Nat.le_refl _,rfl,rfl,HS.out,.inl rfl,.inl rfl⟩
 case round =>
  obtain⟨x,y,hmx,hxy,hyb,rfl,rfl,HST,hlo,hhi⟩:=hrel;by_cases hl:x<y
  · obtain⟨h,hh⟩:∃h:Nat,h=(x+y) / 2:=⟨_,rfl⟩;have hxh:x≤h:=by omega
    have hhy:h<y:=by omega
    have hI:((x:Int)+(y:Int)) / 2=(h:Int):=by omega
    clear hh;have hw1:IntKind.i64.wrap (h:Int)=(h:Int):=IntWalk.i64_in _ (by omega);have hw2:(0:Int)≤(h:Int):=by omega
    have hw3:((h:Int)).toNat=h:=by omega
    have hw4:(h:Int)<(n:Int):=by omega
    have hw5:h<n:=by omega
    have aw1:IntKind.i64.wrap (a:Int)=(a:Int):=IntWalk.i64_in _ (by omega);have aw2:(0:Int)≤(a:Int):=by omega
    have aw3:((a:Int)).toNat=a:=by omega
    have aw4:(a:Int)<(n:Int):=by omega
    have aw5:a<n:=by omega
    have x1:=HST.out.row.at (show h<n by omega);have x2:=HST.out.row.at (show a<n by omega);have HK:=zh (fun W (hW:Below wr.heap.size wr W)=>HC.out.at HST.out.good (HST.out.below.later hW) (show h<n by omega) (show a<n by omega));have HLt:=zh (zCn HLT.out (d h) (d a));obtain⟨A1,l1,c1,f1⟩:=HST.out.good.val (show h<n by omega);obtain⟨A2,l2,c2,f2⟩:=HST.out.good.val (show a<n by omega);rw[f1]at x1 HK;rw[f2]at x2 HK;have HSL:Hid (∀W,Below wr.heap.size wr W→SrtSt w0 P g n cap W d):=fun W hW=>HST.out.later hW;have HRd:Hid (∀W',Below wr.heap.size wr W'→(W'.cell? ⟨g,h,none⟩=some (.slice A1 l1 c1)∧W'.cell? ⟨g,a,none⟩=some (.slice A2 l2 c2))):=fun W' hW=>⟨cell_later hW x1,cell_later hW x2⟩;clear f1 f2;generalize cmp (d h).2 (d a).2=cv at *;go_wp2_with fail
    go_region_held3 (fun W'=>W'.cell? ⟨g,h,none⟩=some (.slice A1 l1 c1)∧W'.cell? ⟨g,a,none⟩=some (.slice A2 l2 c2))
     (first | exact HRd.out _ hb1 | exact HRd.out _ (Below.refl wr.heap.size wr).drew)
     (first | (go_at_fn f;refine(HK.out _ (by exact(Below.refl wr.heap.size wr).drew)).mono ?_;rintro e w1 ⟨rfl,hb1'⟩;have hb1:=wD hb1';clear hb1'))
    have HS1:=zh (HSL.out _ hb1);clear hb1 x1 x2 HRd HSL HK HST;by_cases hcv:cv<0
    · have HL2:=zh (HLt.out.1 hcv);have i1:¬(0:Int)≤cv:=by omega
      have i2:decide ((0:Int)≤cv)=false:=by simp;omega
      have i3:decide (cv<0)=true:=by simp;omega
      have i4:(!decide (cv<0))=false:=by rw[i3];rfl
      go_wp2_with fail;go_roundw;case rel=>exact⟨h+1,y,by omega,by omega,hyb,by go_num,rfl,HS1.out,.inr (by rw[Nat.add_sub_cancel];exact HL2.out),hhi.out⟩
      case measure=>simp[intOf];omega
    · have HL2:=zh (HLt.out.2 (by omega));have i1:(0:Int)≤cv:=by omega
      have i2:decide ((0:Int)≤cv)=true:=by simp;omega
      have i3:decide (cv<0)=false:=by simp;omega
      have i4:(!decide (cv<0))=true:=by rw[i3];rfl
      go_wp2_with fail;go_roundw;case rel=>exact⟨x,h,hmx,hxh,by omega,rfl,rfl,HS1.out,hlo.out,.inr HL2.out⟩
      case measure=>simp[intOf];omega
  · obtain rfl:x=y:=by omega
    obtain⟨p,hp⟩:∃p,x=p+1:=⟨x-1,by omega⟩;have ip:(x:Int)-1=(p:Int):=by omega
    have HCut:=zh (Stab.insu_cut HW.out (d:=d) (a:=a) (b:=b) (j:=p) (by rw[←HA.out];exact HY.out) (by omega) (by omega) (by rcases hlo.out with h | h;exact .inl (by have:=HA.out;omega);exact .inr (by rw[show p=x-1 by omega];exact h)) (by rcases hhi.out with h | h;exact .inl (by omega);exact .inr (by rw[←hp];exact h)));have HSame:=zh (Stab.mvu_same d (a:=a) (b:=b) (i:=a) (j:=p) (Nat.le_refl _) (by omega) (by omega));have HP:=zh hp;have hap:a≤p:=by omega
    have hpb:p<b:=by omega
    clear hp;go_wp2_with fail;go_loopw [13] (fun k wr=>∃(z:Nat),a≤z∧z≤p∧k=.int .i64 z∧Hid (SrtSt w0 P g n cap wr (Stab.mvu d a z))) (fun k _=>p-(intOf k).toNat);case atStart=>exact⟨a,Nat.le_refl _,hap,rfl,by rw[Stab.mvu_self];exact HST.out⟩
    case round =>
     obtain⟨z,haz,hzp,rfl,HST⟩:=hrel;by_cases hl2:z<p
     · obtain⟨r,hr⟩:∃r,r=z+1:=⟨_,rfl⟩;have ir:(z:Int)+1=(r:Int):=by omega
       have HN:=zh (HST.out.swap (show z<n by omega) (show r<n by omega));have x1:=HST.out.row.at (show z<n by omega);have x2:=HST.out.row.at (show r<n by omega);obtain⟨A1,l1,c1,f1⟩:=HST.out.good.val (show z<n by omega);obtain⟨A2,l2,c2,f2⟩:=HST.out.good.val (show r<n by omega);rw[f1]at x1 HN;rw[f2]at x2 HN;rw[hr,Stab.mvu_step d haz,←hr]at HN;have y1:=HST.out.row.frozen z;have y2:=HST.out.row.frozen r;have z2:=HST.out.row.lt.2;have hpr:¬z=r:=by omega
       have hrp:¬r=z:=by omega
       clear f1 f2 HST;have zw1:IntKind.i64.wrap (z:Int)=(z:Int):=IntWalk.i64_in _ (by omega);have zw2:(0:Int)≤(z:Int):=by omega
       have zw3:((z:Int)).toNat=z:=by omega
       have zw4:(z:Int)<(n:Int):=by omega
       have zw5:z<n:=by omega
       have rw1:IntKind.i64.wrap (r:Int)=(r:Int):=IntWalk.i64_in _ (by omega);have rw2:(0:Int)≤(r:Int):=by omega
       have rw3:((r:Int)).toNat=r:=by omega
       have rw4:(r:Int)<(n:Int):=by omega
       have rw5:r<n:=by omega
       have hzz:(z:Int)<(p:Int):=by omega
       have HR:=zh hr;clear hr;go_wp2_with fail
       go_region
       have hSt3:=zh (HN.out.later (Below.refl _ _).drew);obtain⟨W9,hW9⟩:∃W9,W9=((wr.setCell ⟨g,z,none⟩ (.slice A2 l2 c2)).setCell ⟨g,r,none⟩ (.slice A1 l1 c1)).drew:=⟨_,rfl⟩;rw[←hW9]at hSt3 ⊢;clear hW9 x1 x2 y1 y2;go_wp2_with fail;go_roundw;case rel=>exact⟨r,by have:=HR.out;omega,by have:=HR.out;omega,by go_num,hSt3.out⟩
       case measure=>have:=HR.out;simp[intOf];omega
     · obtain rfl:z=p:=by omega
       go_wp2_with fail
       go_end0
       refine⟨rfl,Stab.mvu d a z,HST.out,HSame.out,?_⟩;have ha:=HA.out;rw[HCut.out,ha,Stab.seg_cons d (Nat.lt_succ_self a),Stab.seg_nil d (Nat.le_refl _)]
set_option maxRecDepth 100000 in
theorem zFL (f:Nat) (caps:Array Value) (cmp:List ByteArray→List ByteArray→Int) (lt:List ByteArray→List ByteArray→Bool) (P:List ByteArray→Prop) (w0:World) (hw:Stab.Weak lt) (hlt:∀x y,decide (cmp x y<0)=lt x y) (hc:CmpOk f caps cmp P w0)
 (eg:∀args w,(callFunc f args).run Tryz.prog w=.ok (.enter f args) w) (g n cap a m b:Nat) (d:Nat→uP) (w:World) (h:SrtSt w0 P g n cap w d) (ha:a+1<m) (hmb:b=m+1) (hbn:b≤n) (hn:n≤1048576) (hX:Stab.Srt (ltI lt) (Stab.seg d a m)) :
 Calls Tryz.prog 202 #[(.slice (some ⟨g,0,none⟩) n cap),.int .i64 a,.int .i64 m,.int .i64 b,.func (.func f) #[] caps] w (zDH lt P w0 g n cap a m b d):=by
 have HW:=zh (zBX hw);have HLT:=zh hlt;have HC:=zh hc;have HS:=zh h;have HX:=zh hX;have e1:(((m:Int)-(a:Int))==1)=false:=by rw[beq_eq_false_iff_ne];omega
 have e2:(b:Int)-(m:Int)=1:=by omega
 have hmb':m<b:=by omega
 have HMB:=zh hmb;clear hw hlt hc h hX hmb;go_enter Tryz.func202,Tryz.ntmps202;go_wp2_with fail;go_loopw [14,15] (fun i j wr=>∃(x y:Nat),a≤x∧x≤y∧y≤m∧i=.int .i64 x∧j=.int .i64 y∧Hid (SrtSt w0 P g n cap wr d)∧Hid (x=a∨ltI lt (d m) (d (x-1))=false)∧Hid (y=m∨ltI lt (d m) (d y)=true)) (fun i j _=>(intOf j).toNat-(intOf i).toNat);case atStart=>exact⟨a,m,Nat.le_refl _,by omega,Nat.le_refl _,rfl,rfl,HS.out,.inl rfl,.inl rfl⟩
 case round =>
  obtain⟨x,y,hmx,hxy,hyb,rfl,rfl,HST,hlo,hhi⟩:=hrel;by_cases hl:x<y
  · obtain⟨h,hh⟩:∃h:Nat,h=(x+y) / 2:=⟨_,rfl⟩;have hxh:x≤h:=by omega
    have hhy:h<y:=by omega
    have hI:((x:Int)+(y:Int)) / 2=(h:Int):=by omega
    clear hh;have hw1:IntKind.i64.wrap (h:Int)=(h:Int):=IntWalk.i64_in _ (by omega);have hw2:(0:Int)≤(h:Int):=by omega
    have hw3:((h:Int)).toNat=h:=by omega
    have hw4:(h:Int)<(n:Int):=by omega
    have hw5:h<n:=by omega
    have mw1:IntKind.i64.wrap (m:Int)=(m:Int):=IntWalk.i64_in _ (by omega);have mw2:(0:Int)≤(m:Int):=by omega
    have mw3:((m:Int)).toNat=m:=by omega
    have mw4:(m:Int)<(n:Int):=by omega
    have mw5:m<n:=by omega
    have x1:=HST.out.row.at (show m<n by omega);have x2:=HST.out.row.at (show h<n by omega);have HK:=zh (fun W (hW:Below wr.heap.size wr W)=>HC.out.at HST.out.good (HST.out.below.later hW) (show m<n by omega) (show h<n by omega));have HLt:=zh (zCn HLT.out (d m) (d h));obtain⟨A1,l1,c1,f1⟩:=HST.out.good.val (show m<n by omega);obtain⟨A2,l2,c2,f2⟩:=HST.out.good.val (show h<n by omega);rw[f1]at x1 HK;rw[f2]at x2 HK;have HSL:Hid (∀W,Below wr.heap.size wr W→SrtSt w0 P g n cap W d):=fun W hW=>HST.out.later hW;have HRd:Hid (∀W',Below wr.heap.size wr W'→(W'.cell? ⟨g,m,none⟩=some (.slice A1 l1 c1)∧W'.cell? ⟨g,h,none⟩=some (.slice A2 l2 c2))):=fun W' hW=>⟨cell_later hW x1,cell_later hW x2⟩;clear f1 f2;generalize cmp (d m).2 (d h).2=cv at *;by_cases hcv:cv<0
    · have HL2:=zh (HLt.out.1 hcv);have i3:decide (cv<0)=true:=by simp;omega
      go_wp2_with fail
      go_region_held3 (fun W'=>W'.cell? ⟨g,m,none⟩=some (.slice A1 l1 c1)∧W'.cell? ⟨g,h,none⟩=some (.slice A2 l2 c2))
       (first | exact HRd.out _ hb1 | exact HRd.out _ (Below.refl wr.heap.size wr).drew)
       (first | (go_at_fn f;refine(HK.out _ (by exact(Below.refl wr.heap.size wr).drew)).mono ?_;rintro e w1 ⟨rfl,hb1'⟩;have hb1:=wD hb1';clear hb1'))
      have HS1:=zh (HSL.out _ hb1);clear hb1 x1 x2 HRd HSL HK HST;go_wp2_with fail;go_roundw;case rel=>exact⟨x,h,hmx,hxh,by omega,rfl,rfl,HS1.out,hlo.out,.inr HL2.out⟩
      case measure=>simp[intOf];omega
    · have HL2:=zh (HLt.out.2 (by omega));have i1:(0:Int)≤cv:=by omega
      have i3:decide (cv<0)=false:=by simp;omega
      go_wp2_with fail
      go_region_held3 (fun W'=>W'.cell? ⟨g,m,none⟩=some (.slice A1 l1 c1)∧W'.cell? ⟨g,h,none⟩=some (.slice A2 l2 c2))
       (first | exact HRd.out _ hb1 | exact HRd.out _ (Below.refl wr.heap.size wr).drew)
       (first | (go_at_fn f;refine(HK.out _ (by exact(Below.refl wr.heap.size wr).drew)).mono ?_;rintro e w1 ⟨rfl,hb1'⟩;have hb1:=wD hb1';clear hb1'))
      have HS1:=zh (HSL.out _ hb1);clear hb1 x1 x2 HRd HSL HK HST;go_wp2_with fail;go_roundw;case rel=>exact⟨h+1,y,by omega,by omega,hyb,by go_num,rfl,HS1.out,.inr (by rw[Nat.add_sub_cancel];exact HL2.out),hhi.out⟩
      case measure=>simp[intOf];omega
  · obtain rfl:x=y:=by omega
    have HCut:=zh (Stab.ins_cut HW.out (d:=d) (a:=a) (i:=m) (j:=x) HX.out hmx hyb hlo.out hhi.out);have HSame:=zh (Stab.mv_same d (a:=a) (b:=b) (i:=m) (j:=x) hmx hyb (by omega));go_wp2_with fail;go_loopw [17] (fun k wr=>∃(z:Nat),x≤z∧z≤m∧k=.int .i64 z∧Hid (SrtSt w0 P g n cap wr (Stab.mv d m z))) (fun k _=>(intOf k).toNat);case atStart=>exact⟨m,hyb,Nat.le_refl _,rfl,by rw[Stab.mv_self];exact HST.out⟩
    case round =>
     obtain⟨z,haz,hzp,rfl,HST⟩:=hrel;by_cases hl2:x<z
     · obtain⟨r,hr⟩:∃r,z=r+1:=⟨z-1,by omega⟩;have ir:(z:Int)-1=(r:Int):=by omega
       have HN:=zh (HST.out.swap (show z<n by omega) (show r<n by omega));have x1:=HST.out.row.at (show z<n by omega);have x2:=HST.out.row.at (show r<n by omega);obtain⟨A1,l1,c1,f1⟩:=HST.out.good.val (show z<n by omega);obtain⟨A2,l2,c2,f2⟩:=HST.out.good.val (show r<n by omega);rw[f1]at x1 HN;rw[f2]at x2 HN;rw[show r=z-1 by omega,Stab.mv_step d (show 0<z by omega) hzp,show z-1=r by omega]at HN;have y1:=HST.out.row.frozen z;have y2:=HST.out.row.frozen r;have z2:=HST.out.row.lt.2;have hpr:¬z=r:=by omega
       have hrp:¬r=z:=by omega
       clear f1 f2 HST;have zw1:IntKind.i64.wrap (z:Int)=(z:Int):=IntWalk.i64_in _ (by omega);have zw2:(0:Int)≤(z:Int):=by omega
       have zw3:((z:Int)).toNat=z:=by omega
       have zw4:(z:Int)<(n:Int):=by omega
       have zw5:z<n:=by omega
       have rw1:IntKind.i64.wrap (r:Int)=(r:Int):=IntWalk.i64_in _ (by omega);have rw2:(0:Int)≤(r:Int):=by omega
       have rw3:((r:Int)).toNat=r:=by omega
       have rw4:(r:Int)<(n:Int):=by omega
       have rw5:r<n:=by omega
       have hzz:(x:Int)<(z:Int):=by omega
       have HR:=zh hr;clear hr;go_wp2_with fail
       go_region
       have hSt3:=zh (HN.out.later (Below.refl _ _).drew);obtain⟨W9,hW9⟩:∃W9,W9=((wr.setCell ⟨g,z,none⟩ (.slice A2 l2 c2)).setCell ⟨g,r,none⟩ (.slice A1 l1 c1)).drew:=⟨_,rfl⟩;rw[←hW9]at hSt3 ⊢;clear hW9 x1 x2 y1 y2;go_wp2_with fail;go_roundw;case rel=>exact⟨r,by have:=HR.out;omega,by have:=HR.out;omega,by go_num,hSt3.out⟩
       case measure=>have:=HR.out;simp[intOf];omega
     · obtain rfl:z=x:=by omega
       go_wp2_with fail
       go_end0
       refine⟨rfl,Stab.mv d m z,HST.out,HSame.out,?_⟩;rw[HMB.out,HCut.out,Stab.seg_cons d (Nat.lt_succ_self m),Stab.seg_nil d (Nat.le_refl _)]
end Go.Proofs.YtfpcjhajjejpdaaGreatDoor
namespace Go.Proofs.YtfpcjhajjejpdaaGreatDoor
open Go.RowKit
set_option linter.unusedVariables false
set_option maxRecDepth 100000 in
theorem zGQ (f:Nat) (caps:Array Value) (cmp:List ByteArray→List ByteArray→Int) (lt:List ByteArray→List ByteArray→Bool) (P:List ByteArray→Prop) (w0:World) (hw:Stab.Weak lt) (hlt:∀x y,decide (cmp x y<0)=lt x y) (hc:CmpOk f caps cmp P w0)
 (eg:∀args w,(callFunc f args).run Tryz.prog w=.ok (.enter f args) w) (g n cap:Nat) (hn:n≤1048576):∀(N a m b:Nat) (d:Nat→uP) (w:World),b-a≤N→SrtSt w0 P g n cap w d→a<m→m<b→b≤n→Stab.Srt (ltI lt) (Stab.seg d a m)→Stab.Srt (ltI lt) (Stab.seg d m b) →
 Calls Tryz.prog 202 #[(.slice (some ⟨g,0,none⟩) n cap),.int .i64 a,.int .i64 m,.int .i64 b,.func (.func f) #[] caps] w (zDH lt P w0 g n cap a m b d):=by
 intro N
 induction N with
 | zero=>intro a m b d w h1 _ h2 h3;omega
 | succ N ih =>
   intro a m b d w hN h ham hmb hbn hX hY;by_cases hA:m=a+1
   · exact zGP f caps cmp lt P w0 hw hlt hc eg g n cap a m b d w h hA hmb hbn hn hY
   by_cases hB:b=m+1
   · exact zFL f caps cmp lt P w0 hw hlt hc eg g n cap a m b d w h (by omega) hB hbn hn hX
   have HW:=zh (zBX hw);have HLT:=zh hlt;have HC:=zh hc;have HS:=zh h;have HX:=zh hX;have HY:=zh hY;have HIH:=zh ih;have e1:(((m:Int)-(a:Int))==1)=false:=by rw[beq_eq_false_iff_ne];omega
   have e2:(((b:Int)-(m:Int))==1)=false:=by rw[beq_eq_false_iff_ne];omega
   have ham2:a+1<m:=by omega
   have hmb2:m+1<b:=by omega
   obtain⟨mid,hmid⟩:∃mid,mid=(a+b) / 2:=⟨_,rfl⟩;have HMid:=zh hmid;have hmid1:a+1<mid:=by omega
   have hmid2:mid<b:=by omega
   have imid:((a:Int)+(b:Int)) / 2=(mid:Int):=by omega
   obtain⟨q,hq⟩:∃q,q=mid+m:=⟨_,rfl⟩;have HQ:=zh hq;have iq:(mid:Int)+(m:Int)=(q:Int):=by omega
   have hqb:q≤2097152:=by omega
   obtain⟨p,hp⟩:∃p,q=p+1:=⟨q-1,by omega⟩;have HP:=zh hp;have ip:(q:Int)-1=(p:Int):=by omega
   obtain⟨lo,hlo0⟩:∃lo,lo=if m>mid then mid+m-b else a:=⟨_,rfl⟩
   obtain⟨hi,hhi0⟩:∃hi,hi=if m>mid then mid else m:=⟨_,rfl⟩
   have HLo:=zh hlo0;have HHi:=zh hhi0;have hlh:a≤lo∧lo≤hi∧hi≤p∧p-lo<n∧hi≤m∧hi≤mid:=by split at hlo0 <;> split at hhi0 <;> omega
   obtain⟨b1,b2,b3,b4,b5,b6⟩:=hlh;clear hw hlt hc h hX hY ih hA hB hmid hq hp;go_enter Tryz.func202,Tryz.ntmps202
   go_upto_if 140 with fail
   go_cut [20,21] (fun u v wx=>u=.int .i64 (lo:Nat)∧v=.int .i64 (hi:Nat)∧wx=w)
   case first=>as_aux_lemma =>
    by_cases hmm:m>mid
    · rw[if_pos hmm]at hlo0 hhi0;have ilo:(q:Int)-(b:Int)=(lo:Int):=by have:=HQ.out;omega
      have hz:(mid:Int)<(m:Int):=by omega
      go_wp2_with fail
      go_meet
      case rel=>exact⟨by rw[hlo0],by rw[hhi0],rfl⟩
    · rw[if_neg hmm]at hlo0 hhi0;have hz:(m:Int)≤(mid:Int):=by omega
      go_wp2_with fail
      go_meet
      case rel=>exact⟨by rw[hlo0],by rw[hhi0],rfl⟩
   case rest=>as_aux_lemma =>
   obtain⟨rfl,rfl,rfl⟩:=hcut;clear hlo0 hhi0;go_wp2_with fail;go_loopw [20,21] (fun u v wr=>∃(x y:Nat),lo≤x∧x≤y∧y≤hi∧u=.int .i64 x∧v=.int .i64 y∧Hid (SrtSt w0 P g n cap wr d)∧Hid (x=lo∨ltI lt (d (mid+m-1-(x-1))) (d (x-1))=false)∧Hid (y=hi∨ltI lt (d (mid+m-1-y)) (d y)=true)) (fun u v _=>(intOf v).toNat-(intOf u).toNat);case atStart=>exact⟨lo,hi,Nat.le_refl _,b2,Nat.le_refl _,rfl,rfl,HS.out,.inl rfl,.inl rfl⟩
   case round=>as_aux_lemma =>
    obtain⟨x,y,hlx,hxy,hyh,rfl,rfl,HST,hlo,hhi⟩:=hrel;by_cases hl:x<y
    · obtain⟨c,hc⟩:∃c:Nat,c=(x+y) / 2:=⟨_,rfl⟩;have hxc:x≤c:=by omega
      have hcy:c<y:=by omega
      have hI:((x:Int)+(y:Int)) / 2=(c:Int):=by omega
      obtain⟨r,hr⟩:∃r,r=p-c:=⟨_,rfl⟩;have ir:(p:Int)-(c:Int)=(r:Int):=by omega
      have hrn:r<n:=by omega
      have hcn:c<n:=by omega
      have HR:Hid (mid+m-1-c=r):=by have h1:=HP.out;have h2:=HQ.out;unfold Hid;omega
      clear hc hr;have rw1:IntKind.i64.wrap (r:Int)=(r:Int):=IntWalk.i64_in _ (by omega);have rw2:(0:Int)≤(r:Int):=by omega
      have rw3:((r:Int)).toNat=r:=by omega
      have rw4:(r:Int)<(n:Int):=by omega
      have rw5:r<n:=by omega
      have cw1:IntKind.i64.wrap (c:Int)=(c:Int):=IntWalk.i64_in _ (by omega);have cw2:(0:Int)≤(c:Int):=by omega
      have cw3:((c:Int)).toNat=c:=by omega
      have cw4:(c:Int)<(n:Int):=by omega
      have cw5:c<n:=by omega
      have x1:=HST.out.row.at (show r<n by omega);have x2:=HST.out.row.at (show c<n by omega);have HK:=zh (fun W (hW:Below wr.heap.size wr W)=>HC.out.at HST.out.good (HST.out.below.later hW) (show r<n by omega) (show c<n by omega));have HLt:=zh (zCn HLT.out (d r) (d c));obtain⟨A1,l1,c1,f1⟩:=HST.out.good.val (show r<n by omega);obtain⟨A2,l2,c2,f2⟩:=HST.out.good.val (show c<n by omega);rw[f1]at x1 HK;rw[f2]at x2 HK;have HSL:Hid (∀W,Below wr.heap.size wr W→SrtSt w0 P g n cap W d):=fun W hW=>HST.out.later hW;have HRd:Hid (∀W',Below wr.heap.size wr W'→(W'.cell? ⟨g,r,none⟩=some (.slice A1 l1 c1)∧W'.cell? ⟨g,c,none⟩=some (.slice A2 l2 c2))):=fun W' hW=>⟨cell_later hW x1,cell_later hW x2⟩;clear f1 f2;generalize cmp (d r).2 (d c).2=cv at *;by_cases hcv:cv<0
      · have HL2:=zh (HLt.out.1 hcv);have i3:decide (cv<0)=true:=by simp;omega
        go_wp2_with fail
        go_region_held3 (fun W'=>W'.cell? ⟨g,r,none⟩=some (.slice A1 l1 c1)∧W'.cell? ⟨g,c,none⟩=some (.slice A2 l2 c2))
         (first | exact HRd.out _ hb1 | exact HRd.out _ (Below.refl wr.heap.size wr).drew)
         (first | (go_at_fn f;refine(HK.out _ (by exact(Below.refl wr.heap.size wr).drew)).mono ?_;rintro e w1 ⟨rfl,hb1'⟩;have hb1:=wD hb1';clear hb1'))
        have HS1:=zh (HSL.out _ hb1);clear hb1 x1 x2 HRd HSL HK HST;go_wp2_with fail;go_roundw;case rel=>exact⟨x,c,hlx,hxc,by omega,rfl,rfl,HS1.out,hlo.out,.inr (by rw[HR.out];exact HL2.out)⟩
        case measure=>simp[intOf];omega
      · have HL2:=zh (HLt.out.2 (by omega));have i1:(0:Int)≤cv:=by omega
        have i3:decide (cv<0)=false:=by simp;omega
        go_wp2_with fail
        go_region_held3 (fun W'=>W'.cell? ⟨g,r,none⟩=some (.slice A1 l1 c1)∧W'.cell? ⟨g,c,none⟩=some (.slice A2 l2 c2))
         (first | exact HRd.out _ hb1 | exact HRd.out _ (Below.refl wr.heap.size wr).drew)
         (first | (go_at_fn f;refine(HK.out _ (by exact(Below.refl wr.heap.size wr).drew)).mono ?_;rintro e w1 ⟨rfl,hb1'⟩;have hb1:=wD hb1';clear hb1'))
        have HS1:=zh (HSL.out _ hb1);clear hb1 x1 x2 HRd HSL HK HST;go_wp2_with fail;go_roundw;case rel=>exact⟨c+1,y,by omega,by omega,hyh,by go_num,rfl,HS1.out,.inr (by rw[Nat.add_sub_cancel,HR.out];exact HL2.out),hhi.out⟩
        case measure=>simp[intOf];omega
    · obtain rfl:x=y:=by omega
      obtain⟨stop,hstop⟩:∃stop,stop=q-x:=⟨_,rfl⟩;have is:(q:Int)-(x:Int)=(stop:Int):=by omega
      obtain⟨q1,q2,q3,q4,q5,q6,hM⟩:=Stab.sym_cut HW.out HX.out HY.out HMid.out (start:=x) (stop:=stop) (lo:=lo) (hi:=hi) (by have h1:=HQ.out;omega) hlx hyh HLo.out HHi.out hlo.out hhi.out;have HM:=zh hM;have HSS:Hid (x+stop=mid+m):=by have h1:=HQ.out;unfold Hid;omega
      have HParts:=zh (Stab.rot_srt HX.out HY.out q1 q2 q3 q4 q5 q6 HSS.out);clear hM hstop hlo hhi;obtain⟨WX,rfl⟩:∃WX,WX=wr:=⟨wr,rfl⟩;obtain⟨bb,hbb⟩:∃bb:Bool,bb=(decide (x<m)&&decide (m<stop)):=⟨_,rfl⟩
      go_upto_region 39 with fail
      go_cut [185] (fun v wx=>v=.bool bb∧wx=WX)
      case first=>as_aux_lemma =>
       by_cases r1:x<m
       · by_cases r2:m<stop
         · have z1:(x:Int)<(m:Int):=by omega
           have z2:(m:Int)<(stop:Int):=by omega
           go_wp2_with fail
           go_meet
           case rel=>exact⟨by rw[hbb,decide_eq_true r1,decide_eq_true r2];rfl,rfl⟩
         · have z1:(x:Int)<(m:Int):=by omega
           have z2:(stop:Int)≤(m:Int):=by omega
           have z3:decide ((m:Int)<(stop:Int))=false:=by simp;omega
           go_wp2_with fail
           go_meet
           case rel=>exact⟨by rw[hbb,decide_eq_true r1,decide_eq_false r2];rfl,rfl⟩
       · have z1:(m:Int)≤(x:Int):=by omega
         have z3:decide ((x:Int)<(m:Int))=false:=by simp;omega
         go_wp2_with fail
         go_meet
         case rel=>exact⟨by rw[hbb,decide_eq_false r1];rfl,rfl⟩
      case rest=>as_aux_lemma =>
      obtain⟨rfl,rfl⟩:=hcut;obtain⟨WX,rfl⟩:∃WX,WX=wc:=⟨wc,rfl⟩
      go_upto_if 185 with fail
      go_cut [24] (fun v wx=>v=.int .i64 (stop:Nat)∧Hid (SrtSt w0 P g n cap wx (Stab.rot d x m stop)))
      case first=>as_aux_lemma =>
       cases bb
       · have HS1:Hid (SrtSt w0 P g n cap WX (Stab.rot d x m stop)):=by unfold Hid;rw[Stab.rot_id d q2 q3 (fun h=>by rw[decide_eq_true h.1,decide_eq_true h.2]at hbb;cases hbb)];exact HST.out
         clear hbb;go_wp2_with fail
         go_meet
         case rel=>exact⟨rfl,HS1.out⟩
       · have r1:x<m∧m<stop:=by simpa using hbb.symm
         clear hbb;have HK:=zh (zJm f caps P w0 g n cap x m stop d _ HST.out r1.1 r1.2 (by omega) hn);go_wp2_with fail;refine HK.out.mono ?_;rintro e w1 ⟨rfl,hS1⟩;have HS1:=zh hS1;clear hS1;go_wp2_with fail
         go_meet
         case rel=>exact⟨rfl,HS1.out⟩
      case rest=>as_aux_lemma =>
      obtain⟨rfl,HS1⟩:=hcut;obtain⟨W1,rfl⟩:∃W1,W1=wc:=⟨wc,rfl⟩;obtain⟨d1,hd1⟩:∃d1,d1=Stab.rot d x m stop:=⟨_,rfl⟩;have HD1:=zh hd1;rw[←hd1]at HS1 HParts;clear hd1 hbb;obtain⟨bc,hbc⟩:∃bc:Bool,bc=(decide (a<x)&&decide (x<mid)):=⟨_,rfl⟩
      go_upto_region 41 with fail
      go_cut [199] (fun v wx=>v=.bool bc∧wx=W1)
      case first=>as_aux_lemma =>
       by_cases r1:a<x
       · by_cases r2:x<mid
         · have z1:(a:Int)<(x:Int):=by omega
           have z2:(x:Int)<(mid:Int):=by omega
           go_wp2_with fail
           go_meet
           case rel=>exact⟨by rw[hbc,decide_eq_true r1,decide_eq_true r2];rfl,rfl⟩
         · have z1:(a:Int)<(x:Int):=by omega
           have z2:(mid:Int)≤(x:Int):=by omega
           have z3:decide ((x:Int)<(mid:Int))=false:=by simp;omega
           go_wp2_with fail
           go_meet
           case rel=>exact⟨by rw[hbc,decide_eq_true r1,decide_eq_false r2];rfl,rfl⟩
       · have z1:(x:Int)≤(a:Int):=by omega
         have z3:decide ((a:Int)<(x:Int))=false:=by simp;omega
         go_wp2_with fail
         go_meet
         case rel=>exact⟨by rw[hbc,decide_eq_false r1];rfl,rfl⟩
      case rest=>as_aux_lemma =>
      obtain⟨rfl,rfl⟩:=hcut;obtain⟨W1,rfl⟩:∃W1,W1=wc:=⟨wc,rfl⟩
      go_upto_if 199 with fail
      go_cut [24] (fun v wx=>v=.int .i64 (stop:Nat)∧∃d2,Hid (SrtSt w0 P g n cap wx d2)∧Hid (Stab.Same d1 d2 a mid)∧Hid (Stab.seg d2 a mid=Stab.mrg (ltI lt) (Stab.seg d1 a x) (Stab.seg d1 x mid)))
      case first=>as_aux_lemma =>
       cases bc
       · have HE:=zh (Stab.one_mrg_nil (lt:=ltI lt) d1 q1 q5 (fun h=>by rw[decide_eq_true h.1,decide_eq_true h.2]at hbc;cases hbc));clear hbc;go_wp2_with fail
         go_meet
         case rel=>exact⟨rfl,d1,HS1.out,Stab.Same.refl _ _ _,HE.out⟩
       · have r1:a<x∧x<mid:=by simpa using hbc.symm
         clear hbc;have HK:=zh (HIH.out a x mid d1 _ (by omega) HS1.out r1.1 r1.2 (by omega) HParts.out.1 HParts.out.2.1);go_wp2_with fail;refine HK.out.mono ?_;rintro e w1 ⟨rfl,d2,hS2,hSame,hE⟩;have HS2:=zh hS2;have HSame:=zh hSame;have HE:=zh hE;clear hS2 hSame hE;go_wp2_with fail
         go_meet
         case rel=>exact⟨rfl,d2,HS2.out,HSame.out,HE.out⟩
      case rest=>as_aux_lemma =>
      obtain⟨rfl,d2,HS2,HSame2,HE2⟩:=hcut;obtain⟨W2,rfl⟩:∃W2,W2=wc:=⟨wc,rfl⟩;clear hbc
      have HP2:Hid (Stab.Srt (ltI lt) (Stab.seg d2 mid stop)∧Stab.Srt (ltI lt) (Stab.seg d2 stop b)):=by
       refine⟨?_,?_⟩
       · rw[Stab.seg_congr (d':=d1) (fun t t1 t2=>HSame2.out t (by omega))];exact HParts.out.2.2.1
       · rw[Stab.seg_congr (d':=d1) (fun t t1 t2=>HSame2.out t (by omega))];exact HParts.out.2.2.2
      have HJoin:Hid (∀d3,Stab.Same d2 d3 mid b→Stab.seg d3 mid b=Stab.mrg (ltI lt) (Stab.seg d2 mid stop) (Stab.seg d2 stop b)→Stab.Same d d3 a b∧Stab.seg d3 a b=Stab.mrg (ltI lt) (Stab.seg d a m) (Stab.seg d m b)):=fun d3 h1 h2=>by have h3:=HSame2.out;have h4:=HE2.out;rw[HD1.out]at h3 h4;exact Stab.sym_join q1 q2 q3 q4 q5 q6 HSS.out HM.out h3 h4 h1 h2
      obtain⟨bd,hbd⟩:∃bd:Bool,bd=(decide (mid<stop)&&decide (stop<b)):=⟨_,rfl⟩
      go_upto_region 43 with fail
      go_cut [213] (fun v wx=>v=.bool bd∧wx=W2)
      case first=>as_aux_lemma =>
       by_cases r1:mid<stop
       · by_cases r2:stop<b
         · have z1:(mid:Int)<(stop:Int):=by omega
           have z2:(stop:Int)<(b:Int):=by omega
           go_wp2_with fail
           go_meet
           case rel=>exact⟨by rw[hbd,decide_eq_true r1,decide_eq_true r2];rfl,rfl⟩
         · have z1:(mid:Int)<(stop:Int):=by omega
           have z2:(b:Int)≤(stop:Int):=by omega
           have z3:decide ((stop:Int)<(b:Int))=false:=by simp;omega
           go_wp2_with fail
           go_meet
           case rel=>exact⟨by rw[hbd,decide_eq_true r1,decide_eq_false r2];rfl,rfl⟩
       · have z1:(stop:Int)≤(mid:Int):=by omega
         have z3:decide ((mid:Int)<(stop:Int))=false:=by simp;omega
         go_wp2_with fail
         go_meet
         case rel=>exact⟨by rw[hbd,decide_eq_false r1];rfl,rfl⟩
      case rest=>as_aux_lemma =>
      obtain⟨rfl,rfl⟩:=hcut;obtain⟨W2,rfl⟩:∃W2,W2=wc:=⟨wc,rfl⟩;cases bd
      · have HE:=zh (HJoin.out d2 (Stab.Same.refl _ _ _) (Stab.one_mrg_nil (lt:=ltI lt) d2 q6 q4 (fun h=>by rw[decide_eq_true h.1,decide_eq_true h.2]at hbd;cases hbd)));clear hbd;go_wp2_with fail
        go_end0
        exact⟨rfl,d2,HS2.out,HE.out.1,HE.out.2⟩
      · have r1:mid<stop∧stop<b:=by simpa using hbd.symm
        clear hbd;have HK:=zh (HIH.out mid stop b d2 _ (by omega) HS2.out r1.1 r1.2 (by omega) HP2.out.1 HP2.out.2);go_wp2_with fail;refine HK.out.mono ?_;rintro e w1 ⟨rfl,d3,hS3,hSame,hE⟩;have HS3:=zh hS3;have HE:=zh (HJoin.out d3 hSame hE);clear hS3 hSame hE;go_wp2_with fail
        go_end0
        exact⟨rfl,d3,HS3.out,HE.out.1,HE.out.2⟩
end Go.Proofs.YtfpcjhajjejpdaaGreatDoor
