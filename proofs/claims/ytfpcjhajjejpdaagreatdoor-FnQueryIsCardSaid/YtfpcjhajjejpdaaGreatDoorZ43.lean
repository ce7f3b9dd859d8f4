import Derived.Test.YtfpcjhajjejpdaaGreatDoorZ42
set_option maxHeartbeats 8000000
open Go.Lib renaming hid → zh
namespace Go.Proofs.YtfpcjhajjejpdaaGreatDoor
open Go.RowKit
set_option linter.unusedVariables false
def zCQ (lt:List ByteArray→List ByteArray→Bool) (P:List ByteArray→Prop) (w0:World) (g n cap a m b:Nat) (d:Nat→uM) (e:Ending) (w':World):Prop:=e=.returned (.tuple #[])∧∃d',SrtSt w0 P g n cap w' d'∧Stab.Same d d' a b∧Stab.seg d' a b=Stab.mrg (ltI lt) (Stab.seg d a m) (Stab.seg d m b)
set_option maxRecDepth 100000 in
theorem zFB (f:Nat) (caps:Array Value) (cmp:List ByteArray→List ByteArray→Int) (lt:List ByteArray→List ByteArray→Bool) (P:List ByteArray→Prop) (w0:World) (hw:Stab.Weak lt) (hlt:∀x y,decide (cmp x y<0)=lt x y) (hc:CmpOk f caps cmp P w0)
 (eg:∀args w,(callFunc f args).run Tryz.prog w=.ok (.enter f args) w) (g n cap a m b:Nat) (d:Nat→uM) (w:World) (h:SrtSt w0 P g n cap w d) (ha:m=a+1) (hmb:m<b) (hbn:b≤n) (hn:n≤1048576) (hY:Stab.Srt (ltI lt) (Stab.seg d m b)) :
 Calls Tryz.prog 202 #[(.slice (some ⟨g,0,none⟩) n cap),.int .i64 a,.int .i64 m,.int .i64 b,.func (.func f) #[] caps] w (zCQ lt P w0 g n cap a m b d):=by
 have HW:=zh (zBd hw);have HLT:=zh hlt;have HC:=zh hc;have HS:=zh h;have HY:=zh hY;have e1:(m:Int)-(a:Int)=1:=by omega
 have ham:a<m:=by omega
 have HA:=zh ha;clear hw hlt hc h hY ha;go_enter Tryz.func202,Tryz.ntmps202;go_wp2_with fail;go_loopw [10,11] (fun i j wr=>∃(x y:Nat),m≤x∧x≤y∧y≤b∧i=.int .i64 x∧j=.int .i64 y∧Hid (SrtSt w0 P g n cap wr d)∧Hid (x=m∨ltI lt (d (x-1)) (d a)=true)∧Hid (y=b∨ltI lt (d y) (d a)=false)) (fun i j _=>(intOf j).toNat-(intOf i).toNat);case atStart=>exact⟨m,b,Nat.le_refl _,by omega,Nat.le_refl _,rfl,rfl,HS.out,.inl rfl,.inl rfl⟩
 case round =>
  obtain⟨x,y,hmx,hxy,hyb,rfl,rfl,HST,hlo,hhi⟩:=hrel;by_cases hl:x<y
  · obtain⟨h,hh⟩:∃h:Nat,h=(x+y) / 2:=⟨_,rfl⟩;have hxh:x≤h:=by omega
    have hhy:h<y:=by omega
    have hI:((x:Int)+(y:Int)) / 2=(h:Int):=by omega
    clear hh;have hw1:IntKind.i64.wrap (h:Int)=(h:Int):=IntWalk.i64_in _ (by omega);have hw2:(0:Int)≤(h:Int):=by omega
    have hw3:((h:Int)).toNat=h:=by omega
    have hw4:(h:Int)<(n:Int):=by omega
    have hw5:h<n:=by omega
    have aw1:IntKind.i64.wrap (a:Int)=(a:Int):=IntWalk.i64_in _ (by omega);have aw2:(0:Int)≤(a:Int):=by omega
    have aw3:((a:Int)).toNat=a:=by omega
    have aw4:(a:Int)<(n:Int):=by omega
    have aw5:a<n:=by omega
    have x1:=HST.out.row.at (show h<n by omega);have x2:=HST.out.row.at (show a<n by omega);have HK:=zh (fun W (hW:Below wr.heap.size wr W)=>HC.out.at HST.out.good (HST.out.below.later hW) (show h<n by omega) (show a<n by omega));have HLt:=zh (zBq HLT.out (d h) (d a));obtain⟨A1,l1,c1,f1⟩:=HST.out.good.val (show h<n by omega);obtain⟨A2,l2,c2,f2⟩:=HST.out.good.val (show a<n by omega);rw[f1]at x1 HK;rw[f2]at x2 HK;have HSL:Hid (∀W,Below wr.heap.size wr W→SrtSt w0 P g n cap W d):=fun W hW=>HST.out.later hW;have HRd:Hid (∀W',Below wr.heap.size wr W'→(W'.cell? ⟨g,h,none⟩=some (.slice A1 l1 c1)∧W'.cell? ⟨g,a,none⟩=some (.slice A2 l2 c2))):=fun W' hW=>⟨cell_later hW x1,cell_later hW x2⟩;clear f1 f2;generalize cmp (d h).2 (d a).2=cv at *;go_wp2_with fail
    go_region_held3 (fun W'=>W'.cell? ⟨g,h,none⟩=some (.slice A1 l1 c1)∧W'.cell? ⟨g,a,none⟩=some (.slice A2 l2 c2))
     (first | exact HRd.out _ hb1 | exact HRd.out _ (Below.refl wr.heap.size wr).drew)
     (first | (go_at_fn f;refine(HK.out _ (by exact(Below.refl wr.heap.size wr).drew)).mono ?_;rintro e w1 ⟨rfl,hb1'⟩;have hb1:=xC hb1';clear hb1'))
    have HS1:=zh (HSL.out _ hb1);clear hb1 x1 x2 HRd HSL HK HST;by_cases hcv:cv<0
    · have HL2:=zh (HLt.out.1 hcv);have i1:¬(0:Int)≤cv:=by omega
      have i2:decide ((0:Int)≤cv)=false:=by simp;omega
      have i3:decide (cv<0)=true:=by simp;omega
      have i4:(!decide (cv<0))=false:=by rw[i3];rfl
      go_wp2_with fail;go_roundw;case rel=>exact⟨h+1,y,by omega,by omega,hyb,by go_num,rfl,HS1.out,.inr (by rw[Nat.add_sub_cancel];exact HL2.out),hhi.out⟩
      case measure=>simp[intOf];omega
    · have HL2:=zh (HLt.out.2 (by omega));have i1:(0:Int)≤cv:=by omega
      have i2:decide ((0:Int)≤cv)=true:=by simp;omega
      have i3:decide (cv<0)=false:=by simp;omega
      have i4:(!decide (cv<0))=true:=by rw[i3];rfl
      go_wp2_with fail;go_roundw;case rel=>exact⟨x,h,hmx,hxh,by omega,rfl,rfl,HS1.out,hlo.out,.inr HL2.out⟩
      case measure=>simp[intOf];omega
  · obtain rfl:x=y:=by omega
    obtain⟨p,hp⟩:∃p,x=p+1:=⟨x-1,by omega⟩;have ip:(x:Int)-1=(p:Int):=by omega
    have HCut:=zh (Stab.insu_cut HW.out (d:=d) (a:=a) (b:=b) (j:=p) (by rw[←HA.out];exact HY.out) (by omega) (by omega) (by rcases hlo.out with h | h;exact .inl (by have:=HA.out;omega);exact .inr (by rw[show p=x-1 by omega];exact h)) (by rcases hhi.out with h | h;exact .inl (by omega);exact .inr (by rw[←hp];exact h)));have HSame:=zh (Stab.mvu_same d (a:=a) (b:=b) (i:=a) (j:=p) (Nat.le_refl _) (by omega) (by omega));have HP:=zh hp;have hap:a≤p:=by omega
    have hpb:p<b:=by omega
    clear hp;go_wp2_with fail;go_loopw [13] (fun k wr=>∃(z:Nat),a≤z∧z≤p∧k=.int .i64 z∧Hid (SrtSt w0 P g n cap wr (Stab.mvu d a z))) (fun k _=>p-(intOf k).toNat);case atStart=>exact⟨a,Nat.le_refl _,hap,rfl,by rw[Stab.mvu_self];exact HST.out⟩
    case round =>
     obtain⟨z,haz,hzp,rfl,HST⟩:=hrel;by_cases hl2:z<p
     · obtain⟨r,hr⟩:∃r,r=z+1:=⟨_,rfl⟩;have ir:(z:Int)+1=(r:Int):=by omega
       have HN:=zh (HST.out.swap (show z<n by omega) (show r<n by omega));have x1:=HST.out.row.at (show z<n by omega);have x2:=HST.out.row.at (show r<n by omega);obtain⟨A1,l1,c1,f1⟩:=HST.out.good.val (show z<n by omega);obtain⟨A2,l2,c2,f2⟩:=HST.out.good.val (show r<n by omega);rw[f1]at x1 HN;rw[f2]at x2 HN;rw[hr,Stab.mvu_step d haz,←hr]at HN;have y1:=HST.out.row.frozen z;have y2:=HST.out.row.frozen r;have z2:=HST.out.row.lt.2;have hpr:¬z=r:=by omega
       have hrp:¬r=z:=by omega
       clear f1 f2 HST;have zw1:IntKind.i64.wrap (z:Int)=(z:Int):=IntWalk.i64_in _ (by omega);have zw2:(0:Int)≤(z:Int):=by omega
       have zw3:((z:Int)).toNat=z:=by omega
       have zw4:(z:Int)<(n:Int):=by omega
       have zw5:z<n:=by omega
       have rw1:IntKind.i64.wrap (r:Int)=(r:Int):=IntWalk.i64_in _ (by omega);have rw2:(0:Int)≤(r:Int):=by omega
       have rw3:((r:Int)).toNat=r:=by omega
       have rw4:(r:Int)<(n:Int):=by omega
       have rw5:r<n:=by omega
       have hzz:(z:Int)<(p:Int):=by omega
       have HR:=zh hr;clear hr;go_wp2_with fail
       go_region
       have hSt3:=zh (HN.out.later (Below.refl _ _).drew);obtain⟨W9,hW9⟩:∃W9,W9=((wr.setCell ⟨g,z,none⟩ (.slice A2 l2 c2)).setCell ⟨g,r,none⟩ (.slice A1 l1 c1)).drew:=⟨_,rfl⟩;rw[←hW9]at hSt3 ⊢;clear hW9 x1 x2 y1 y2;go_wp2_with fail;go_roundw;case rel=>exact⟨r,by have:=HR.out;omega,by have:=HR.out;omega,by go_num,hSt3.out⟩
       case measure=>have:=HR.out;simp[intOf];omega
     · obtain rfl:z=p:=by omega
       go_wp2_with fail
       go_end0
       refine⟨rfl,Stab.mvu d a z,HST.out,HSame.out,?_⟩;have ha:=HA.out;rw[HCut.out,ha,Stab.seg_cons d (Nat.lt_succ_self a),Stab.seg_nil d (Nat.le_refl _)]
set_option maxRecDepth 100000 in
theorem zEI (f:Nat) (caps:Array Value) (cmp:List ByteArray→List ByteArray→Int) (lt:List ByteArray→List ByteArray→Bool) (P:List ByteArray→Prop) (w0:World) (hw:Stab.Weak lt) (hlt:∀x y,decide (cmp x y<0)=lt x y) (hc:CmpOk f caps cmp P w0)
 (eg:∀args w,(callFunc f args).run Tryz.prog w=.ok (.enter f args) w) (g n cap a m b:Nat) (d:Nat→uM) (w:World) (h:SrtSt w0 P g n cap w d) (ha:a+1<m) (hmb:b=m+1) (hbn:b≤n) (hn:n≤1048576) (hX:Stab.Srt (ltI lt) (Stab.seg d a m)) :
 Calls Tryz.prog 202 #[(.slice (some ⟨g,0,none⟩) n cap),.int .i64 a,.int .i64 m,.int .i64 b,.func (.func f) #[] caps] w (zCQ lt P w0 g n cap a m b d):=by
 have HW:=zh (zBd hw);have HLT:=zh hlt;have HC:=zh hc;have HS:=zh h;have HX:=zh hX;have e1:(((m:Int)-(a:Int))==1)=false:=by rw[beq_eq_false_iff_ne];omega
 have e2:(b:Int)-(m:Int)=1:=by omega
 have hmb':m<b:=by omega
 have HMB:=zh hmb;clear hw hlt hc h hX hmb;go_enter Tryz.func202,Tryz.ntmps202;go_wp2_with fail;go_loopw [14,15] (fun i j wr=>∃(x y:Nat),a≤x∧x≤y∧y≤m∧i=.int .i64 x∧j=.int .i64 y∧Hid (SrtSt w0 P g n cap wr d)∧Hid (x=a∨ltI lt (d m) (d (x-1))=false)∧Hid (y=m∨ltI lt (d m) (d y)=true)) (fun i j _=>(intOf j).toNat-(intOf i).toNat);case atStart=>exact⟨a,m,Nat.le_refl _,by omega,Nat.le_refl _,rfl,rfl,HS.out,.inl rfl,.inl rfl⟩
 case round =>
  obtain⟨x,y,hmx,hxy,hyb,rfl,rfl,HST,hlo,hhi⟩:=hrel;by_cases hl:x<y
  · obtain⟨h,hh⟩:∃h:Nat,h=(x+y) / 2:=⟨_,rfl⟩;have hxh:x≤h:=by omega
    have hhy:h<y:=by omega
    have hI:((x:Int)+(y:Int)) / 2=(h:Int):=by omega
    clear hh;have hw1:IntKind.i64.wrap (h:Int)=(h:Int):=IntWalk.i64_in _ (by omega);have hw2:(0:Int)≤(h:Int):=by omega
    have hw3:((h:Int)).toNat=h:=by omega
    have hw4:(h:Int)<(n:Int):=by omega
    have hw5:h<n:=by omega
    have mw1:IntKind.i64.wrap (m:Int)=(m:Int):=IntWalk.i64_in _ (by omega);have mw2:(0:Int)≤(m:Int):=by omega
    have mw3:((m:Int)).toNat=m:=by omega
    have mw4:(m:Int)<(n:Int):=by omega
    have mw5:m<n:=by omega
    have x1:=HST.out.row.at (show m<n by omega);have x2:=HST.out.row.at (show h<n by omega);have HK:=zh (fun W (hW:Below wr.heap.size wr W)=>HC.out.at HST.out.good (HST.out.below.later hW) (show m<n by omega) (show h<n by omega));have HLt:=zh (zBq HLT.out (d m) (d h));obtain⟨A1,l1,c1,f1⟩:=HST.out.good.val (show m<n by omega);obtain⟨A2,l2,c2,f2⟩:=HST.out.good.val (show h<n by omega);rw[f1]at x1 HK;rw[f2]at x2 HK;have HSL:Hid (∀W,Below wr.heap.size wr W→SrtSt w0 P g n cap W d):=fun W hW=>HST.out.later hW;have HRd:Hid (∀W',Below wr.heap.size wr W'→(W'.cell? ⟨g,m,none⟩=some (.slice A1 l1 c1)∧W'.cell? ⟨g,h,none⟩=some (.slice A2 l2 c2))):=fun W' hW=>⟨cell_later hW x1,cell_later hW x2⟩;clear f1 f2;generalize cmp (d m).2 (d h).2=cv at *;by_cases hcv:cv<0
    · have HL2:=zh (HLt.out.1 hcv);have i3:decide (cv<0)=true:=by simp;omega
      go_wp2_with fail
      go_region_held3 (fun W'=>W'.cell? ⟨g,m,none⟩=some (.slice A1 l1 c1)∧W'.cell? ⟨g,h,none⟩=some (.slice A2 l2 c2))
       (first | exact HRd.out _ hb1 | exact HRd.out _ (Below.refl wr.heap.size wr).drew)
       (first | (go_at_fn f;refine(HK.out _ (by exact(Below.refl wr.heap.size wr).drew)).mono ?_;rintro e w1 ⟨rfl,hb1'⟩;have hb1:=xC hb1';clear hb1'))
      have HS1:=zh (HSL.out _ hb1);clear hb1 x1 x2 HRd HSL HK HST;go_wp2_with fail;go_roundw;case rel=>exact⟨x,h,hmx,hxh,by omega,rfl,rfl,HS1.out,hlo.out,.inr HL2.out⟩
      case measure=>simp[intOf];omega
    · have HL2:=zh (HLt.out.2 (by omega));have i1:(0:Int)≤cv:=by omega
      have i3:decide (cv<0)=false:=by simp;omega
      go_wp2_with fail
      go_region_held3 (fun W'=>W'.cell? ⟨g,m,none⟩=some (.slice A1 l1 c1)∧W'.cell? ⟨g,h,none⟩=some (.slice A2 l2 c2))
       (first | exact HRd.out _ hb1 | exact HRd.out _ (Below.refl wr.heap.size wr).drew)
       (first | (go_at_fn f;refine(HK.out _ (by exact(Below.refl wr.heap.size wr).drew)).mono ?_;rintro e w1 ⟨rfl,hb1'⟩;have hb1:=xC hb1';clear hb1'))
      have HS1:=zh (HSL.out _ hb1);clear hb1 x1 x2 HRd HSL HK HST;go_wp2_with fail;go_roundw;case rel=>exact⟨h+1,y,by omega,by omega,hyb,by go_num,rfl,HS1.out,.inr (by rw[Nat.add_sub_cancel];exact HL2.out),hhi.out⟩
      case measure=>simp[intOf];omega
  · obtain rfl:x=y:=by omega
    have HCut:=zh (Stab.ins_cut HW.out (d:=d) (a:=a) (i:=m) (j:=x) HX.out hmx hyb hlo.out hhi.out);have HSame:=zh (Stab.mv_same d (a:=a) (b:=b) (i:=m) (j:=x) hmx hyb (by omega));go_wp2_with fail;go_loopw [17] (fun k wr=>∃(z:Nat),x≤z∧z≤m∧k=.int .i64 z∧Hid (SrtSt w0 P g n cap wr (Stab.mv d m z))) (fun k _=>(intOf k).toNat);case atStart=>exact⟨m,hyb,Nat.le_refl _,rfl,by rw[Stab.mv_self];exact HST.out⟩
    case round =>
     obtain⟨z,haz,hzp,rfl,HST⟩:=hrel;by_cases hl2:x<z
     · obtain⟨r,hr⟩:∃r,z=r+1:=⟨z-1,by omega⟩;have ir:(z:Int)-1=(r:Int):=by omega
       have HN:=zh (HST.out.swap (show z<n by omega) (show r<n by omega));have x1:=HST.out.row.at (show z<n by omega);have x2:=HST.out.row.at (show r<n by omega);obtain⟨A1,l1,c1,f1⟩:=HST.out.good.val (show z<n by omega);obtain⟨A2,l2,c2,f2⟩:=HST.out.good.val (show r<n by omega);rw[f1]at x1 HN;rw[f2]at x2 HN;rw[show r=z-1 by omega,Stab.mv_step d (show 0<z by omega) hzp,show z-1=r by omega]at HN;have y1:=HST.out.row.frozen z;have y2:=HST.out.row.frozen r;have z2:=HST.out.row.lt.2;have hpr:¬z=r:=by omega
       have hrp:¬r=z:=by omega
       clear f1 f2 HST;have zw1:IntKind.i64.wrap (z:Int)=(z:Int):=IntWalk.i64_in _ (by omega);have zw2:(0:Int)≤(z:Int):=by omega
       have zw3:((z:Int)).toNat=z:=by omega
       have zw4:(z:Int)<(n:Int):=by omega
       have zw5:z<n:=by omega
       have rw1:IntKind.i64.wrap (r:Int)=(r:Int):=IntWalk.i64_in _ (by omega);have rw2:(0:Int)≤(r:Int):=by omega
       have rw3:((r:Int)).toNat=r:=by omega
       have rw4:(r:Int)<(n:Int):=by omega
       have rw5:r<n:=by omega
       have hzz:(x:Int)<(z:Int):=by omega
       have HR:=zh hr;clear hr;go_wp2_with fail
       go_region
       have hSt3:=zh (HN.out.later (Below.refl _ _).drew);obtain⟨W9,hW9⟩:∃W9,W9=((wr.setCell ⟨g,z,none⟩ (.slice A2 l2 c2)).setCell ⟨g,r,none⟩ (.slice A1 l1 c1)).drew:=⟨_,rfl⟩;rw[←hW9]at hSt3 ⊢;clear hW9 x1 x2 y1 y2;go_wp2_with fail;go_roundw;case rel=>exact⟨r,by have:=HR.out;omega,by have:=HR.out;omega,by go_num,hSt3.out⟩
       case measure=>have:=HR.out;simp[intOf];omega
     · obtain rfl:z=x:=by omega
       go_wp2_with fail
       go_end0
       refine⟨rfl,Stab.mv d m z,HST.out,HSame.out,?_⟩;rw[HMB.out,HCut.out,Stab.seg_cons d (Nat.lt_succ_self m),Stab.seg_nil d (Nat.le_refl _)]
end Go.Proofs.YtfpcjhajjejpdaaGreatDoor
