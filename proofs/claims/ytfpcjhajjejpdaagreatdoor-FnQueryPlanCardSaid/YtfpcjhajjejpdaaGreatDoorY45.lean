import Derived.Test.YtfpcjhajjejpdaaGreatDoorY44
import Derived.Test.YtfpcjhajjejpdaaGreatDoorY22
set_option maxHeartbeats 8000000
open Go.Lib renaming hid → zh
namespace Go.Proofs.YtfpcjhajjejpdaaGreatDoor
open Go.RowKit
set_option linter.unusedVariables false
def zFE (lt:List ByteArray→List ByteArray→Bool) (P:List ByteArray→Prop) (w0:World) (g n cap:Nat) (d:Nat→uP) (e:Ending) (w':World):Prop:=e=.returned (.tuple #[])∧∃d',SrtSt w0 P g n cap w' d'∧Stab.seg d' 0 n=Stab.srt (ltI lt) (Stab.seg d 0 n)
set_option maxRecDepth 100000 in
theorem zJg (f:Nat) (caps:Array Value) (cmp:List ByteArray→List ByteArray→Int) (lt:List ByteArray→List ByteArray→Bool) (P:List ByteArray→Prop) (w0:World) (hw:Stab.Weak lt) (hlt:∀x y,decide (cmp x y<0)=lt x y) (hc:CmpOk f caps cmp P w0)
 (eg:∀args w,(callFunc f args).run Tryz.prog w=.ok (.enter f args) w) (g n cap:Nat) (hn:n≤24) (d:Nat→uP) (w:World) (h:SrtSt w0 P g n cap w d) :
 Calls Tryz.prog 167 #[.slice (some ⟨g,0,none⟩) n cap,.int .i64 n,.func (.func f) #[] caps] w (zFE lt P w0 g n cap d):=by
 have HI:=zh (fun a b d' W (hS:SrtSt w0 P g n cap W d') (hab:a≤b) (hbn:b≤n)=>zFU f caps cmp lt P w0 hw hlt hc eg g n cap a b d' W hS hab hbn (by omega));have HM:=zh (fun a m b d' W (hS:SrtSt w0 P g n cap W d') (h1:a<m) (h2:m<b) (h3:b≤n) hX hY=>zGQ f caps cmp lt P w0 hw hlt hc eg g n cap (by omega) (b-a) a m b d' W (Nat.le_refl _) hS h1 h2 h3 hX hY);have HS:=zh h;have HW:=zh (zBX hw);clear hw hlt hc h;have hcase:n<20∨n=20∨20<n:=by omega
 go_enter Tryz.func167,Tryz.ntmps167;rcases hcase with hx | hx | hx
 · have z1:(n:Int)<20:=by omega
   have HK:=zh (HI.out 0 n d _ HS.out (Nat.zero_le _) (Nat.le_refl _));go_wp2_with fail;refine wp_loop_rounds 1 ?_;rw[rounds_succ];go_wp2_with fail;refine HK.out.mono ?_;rintro e w1 ⟨rfl,d1,hS1,_,hE1⟩;have HS1:=zh hS1;have HE1:=zh hE1;clear hS1 hE1;go_wp2_with fail;refine wp_loop_rounds 1 ?_;rw[rounds_succ];go_wp2_with fail
   go_end0
   exact⟨rfl,d1,HS1.out,HE1.out⟩
 · subst hx;have HK:=zh (HI.out 0 20 d _ HS.out (Nat.zero_le _) (Nat.le_refl _));go_wp2_with fail;refine wp_loop_rounds 2 ?_;rw[rounds_succ];go_wp2_with fail;refine HK.out.mono ?_;rintro e w1 ⟨rfl,d1,hS1,_,hE1⟩;have HE1:=zh hE1;have HK2:=zh (HI.out 20 20 d1 _ hS1 (Nat.le_refl _) (Nat.le_refl _));clear hS1 hE1;go_wp2_with fail;rw[rounds_succ];go_wp2_with fail;refine HK2.out.mono ?_;rintro e w2 ⟨rfl,d2,hS2,hSame,_⟩;have HS2:=zh hS2;have HE2:Hid (Stab.seg d2 0 20=Stab.srt (ltI lt) (Stab.seg d 0 20)):=by unfold Hid;rw[←HE1.out];exact Stab.seg_congr fun t t1 t2=>hSame t (by omega)
   clear hS2 hSame;go_wp2_with fail;refine wp_loop_rounds 1 ?_;rw[rounds_succ];go_wp2_with fail
   go_end0
   exact⟨rfl,d2,HS2.out,HE2.out⟩
 · have z1:(20:Int)<(n:Int):=by omega
   have z2:(20:Int)≤(n:Int):=by omega
   have z3:(n:Int)<40:=by omega
   have HK:=zh (HI.out 0 20 d _ HS.out (Nat.zero_le _) (by omega));go_wp2_with fail;refine wp_loop_rounds 2 ?_;rw[rounds_succ];go_wp2_with fail;refine HK.out.mono ?_;rintro e w1 ⟨rfl,d1,hS1,hSame1,hE1⟩;have HE1:=zh hE1;have HSm1:=zh hSame1;have HK2:=zh (HI.out 20 n d1 _ hS1 (by omega) (Nat.le_refl _));clear hS1 hE1 hSame1;go_wp2_with fail;rw[rounds_succ];go_wp2_with fail;refine HK2.out.mono ?_;rintro e w2 ⟨rfl,d2,hS2,hSame2,hE2⟩;have hA:Stab.seg d2 0 20=Stab.srt (ltI lt) (Stab.seg d 0 20):=by rw[←HE1.out];exact Stab.seg_congr fun t t1 t2=>hSame2 t (by omega)
   have hB:Stab.seg d2 20 n=Stab.srt (ltI lt) (Stab.seg d 20 n):=by rw[hE2];congr 1;exact Stab.seg_congr fun t t1 t2=>HSm1.out t (by omega)
   have HK3:=zh (HM.out 0 20 n d2 _ hS2 (by omega) (by omega) (Nat.le_refl _) (by rw[hA];exact Stab.srt_srt HW.out _) (by rw[hB];exact Stab.srt_srt HW.out _));have HEnd:Hid (Stab.mrg (ltI lt) (Stab.seg d2 0 20) (Stab.seg d2 20 n)=Stab.srt (ltI lt) (Stab.seg d 0 n)):=by unfold Hid;rw[hA,hB,←Stab.srt_append HW.out,←Stab.seg_split d (by omega) (by omega)]
   clear hS2 hSame2 hE2 hA hB;go_wp2_with fail;refine wp_loop_rounds 2 ?_;rw[rounds_succ];go_wp2_with fail;refine wp_loop_rounds 1 ?_;rw[rounds_succ];go_wp2_with fail;refine HK3.out.mono ?_;rintro e w3 ⟨rfl,d3,hS3,_,hE3⟩;have HS3:=zh hS3;have HE3:Hid (Stab.seg d3 0 n=Stab.srt (ltI lt) (Stab.seg d 0 n)):=by unfold Hid;rw[hE3,HEnd.out]
   clear hS3 hE3;go_wp2_with fail;rw[rounds_succ];go_wp2_with fail
   go_end0
   exact⟨rfl,d3,HS3.out,HE3.out⟩
set_option maxRecDepth 100000 in
theorem zFF (f:Nat) (caps:Array Value) (cmp:List ByteArray→List ByteArray→Int) (lt:List ByteArray→List ByteArray→Bool) (P:List ByteArray→Prop) (w0:World) (hw:Stab.Weak lt) (hlt:∀x y,decide (cmp x y<0)=lt x y) (hc:CmpOk f caps cmp P w0)
 (eg:∀args w,(callFunc f args).run Tryz.prog w=.ok (.enter f args) w) (g n cap:Nat) (hn:n≤24) (d:Nat→uP) (w:World) (h:SrtSt w0 P g n cap w d) :
 Calls Tryz.prog 112 #[.slice (some ⟨g,0,none⟩) n cap,.func (.func f) #[] caps] w (zFE lt P w0 g n cap d):=by
 have HK:=zh (zJg f caps cmp lt P w0 hw hlt hc eg g n cap hn d w h);clear hw hlt hc h eg;go_enter Tryz.func112,Tryz.ntmps112;go_wp2_with fail;refine HK.out.mono ?_;rintro e w1 ⟨rfl,d1,hS1,hE1⟩;have HS1:=zh hS1;have HE1:=zh hE1;clear hS1 hE1;go_wp2_with fail
 go_end0
 exact⟨rfl,d1,HS1.out,HE1.out⟩
end Go.Proofs.YtfpcjhajjejpdaaGreatDoor
namespace Go.Proofs.YtfpcjhajjejpdaaGreatDoor
open Go.RowKit
theorem RowR.same {w:World} {B:Nat} {v:Value} {x y:List ByteArray} (h:RowR w B v x) (h':RowR w B v y):x=y:=by
 obtain⟨A,n,c,rfl,s,_⟩:=h;obtain⟨A',n',c',e,s',_⟩:=h';injection e with e1 e2 e3;subst e1 e2 e3;apply List.ext_getElem (by rw[s.1,s'.1]);intro i h1 h2;have hi:i<n:=by rw[←s.1];exact h1
 obtain⟨b,o,rfl,_,hc⟩:=s.2 (by omega);obtain⟨b',o',e,_,hc'⟩:=s'.2 (by omega);injection e with e;injection e with e1 e2;subst e1 e2;have h3:=(hc i hi).symm.trans (hc' i hi);rw[List.getD_eq_getElem?_getD,List.getElem?_eq_getElem h1,List.getD_eq_getElem?_getD,List.getElem?_eq_getElem h2]at h3;simpa using h3
set_option maxRecDepth 100000 in
theorem zHM (bk qk:Nat) (b0 b1 b2 b3 c0 c1 c2 c3 c4 c5 x0 y0:Value) (b:TableD) (d:QueryD) (x y:List ByteArray) (kk:Nat) (w:World) (htab:uX w) (hkb:Blk w bk 29 #[b0,b1,b2,b3]) (hkq:Blk w qk 32 #[c0,c1,c2,c3,c4,c5]) (hb:TableR w w.heap.size b0 b1 b2 b3 b) (h:QueryR w w.heap.size c0 c1 c2 c3 c4 c5 d) (hx:RowR w w.heap.size x0 x) (hy:RowR w w.heap.size y0 y)
 (hbs:b.small) (hxs:wH x) (hys:wH y) (hp:xA b.cols d.order=kk) (hxk:kk<x.length) (hyk:kk<y.length) :
 Calls Tryz.prog 113 #[.agg #[x0],.agg #[y0],.pointer (some ⟨bk,0,none⟩),.pointer (some ⟨qk,0,none⟩)] w fun e w'=>e=.returned (.int .i64 (zJV d.desc kk x y))∧Below w.heap.size w w':=by
 obtain⟨F,hFx,hFy⟩:∃F:Value→ByteArray,F x0=x.getD kk ByteArray.empty∧F y0=y.getD kk ByteArray.empty:=by
  by_cases e:x0=y0
  · subst e;rw[hx.same hy];exact⟨fun _=>y.getD kk ByteArray.empty,rfl,rfl⟩
  · classical
    exact⟨fun v=>if v=x0 then x.getD kk ByteArray.empty else y.getD kk ByteArray.empty,if_pos rfl,if_neg (fun h:y0=x0=>e h.symm)⟩
 have HK2:Hid (∀W,Below w.heap.size w W→∀r0,r0=x0∨r0=y0→Calls Tryz.prog 85 #[.agg #[b0,b1,b2,b3],.agg #[r0],.string d.order] W fun e w'=>e=.returned (.string (F r0))∧Below W.heap.size W w'):=fun W hW r0 hr0=>by
  rcases hr0 with rfl | rfl
  · rw[hFx];exact zDi b0 b1 b2 b3 _ b x d.order kk W (hb.later hW) (hx.later hW) hbs hp hxk
  · rw[hFy];exact zDi b0 b1 b2 b3 _ b y d.order kk W (hb.later hW) (hy.later hW) hbs hp hyk
 have HKc:=zh (fun W (hW:Below w.heap.size w W)=>zCe (x.getD kk ByteArray.empty) (y.getD kk ByteArray.empty) W (vF htab hW) (hxs.2 _ (uD x kk hxk)) (hys.2 _ (uD y kk hyk)));rw[←hFx,←hFy]at HKc;have HR:Hid (zJV d.desc kk x y=if d.desc=true then -(vZ (x.getD kk ByteArray.empty) (y.getD kk ByteArray.empty)) else vZ (x.getD kk ByteArray.empty) (y.getD kk ByteArray.empty)):=rfl;have hbd:=zNj (x.getD kk ByteArray.empty) (y.getD kk ByteArray.empty);rw[←hFx,←hFy]at HR hbd;obtain⟨rfl,rfl,⟨A2,n2,p2,rfl,s2,k2⟩,⟨A3,n3,p3,rfl,s3,k3⟩⟩:=hb;obtain⟨rfl,⟨B1,m1,q1,rfl,t1,l1⟩,⟨B2,m2,q2,rfl,t2,l2⟩,rfl,rfl,rfl⟩:=h;obtain⟨R0,rn,rc,rfl,_,_⟩:=hx;obtain⟨S0,sn,sc,rfl,_,_⟩:=hy;have HKB:=zh hkb;have HKQ:=zh hkq;have HB0:=zh ((Below.new w (.cells #[.slice R0 rn rc] 40)).later (Below.new _ (.cells #[.slice S0 sn sc] 40)));obtain⟨WB,hWB⟩:∃WB,WB=(w.alloc (.cells #[.slice R0 rn rc] 40)).alloc (.cells #[.slice S0 sn sc] 40):=⟨_,rfl⟩;have HX0:Hid (Blk WB w.heap.size 40 #[.slice R0 rn rc]):=by subst hWB;exact yC _ _ _
 have HX1:Hid (Blk WB (w.heap.size+1) 40 #[.slice S0 sn sc]):=by subst hWB;exact vB _ _ _
 have HBB:Hid (Below w.heap.size w WB):=by subst hWB;exact HB0.out
 have hbk:=hkb.lt;have hqk:=hkq.lt;have HRd:Hid (∀W',Below WB.heap.size WB W'→(W'.cell? ⟨bk,0,none⟩=some (.string b.name)∧W'.cell? ⟨bk,1,none⟩=some (.string b.glob)∧W'.cell? ⟨bk,2,none⟩=some (.slice A2 n2 p2)∧W'.cell? ⟨bk,3,none⟩=some (.slice A3 n3 p3)∧W'.cell? ⟨qk,3,none⟩=some (.string d.order)∧W'.cell? ⟨qk,4,none⟩=some (.bool d.desc)∧W'.cell? ⟨w.heap.size,0,none⟩=some (.slice R0 rn rc)∧W'.cell? ⟨w.heap.size+1,0,none⟩=some (.slice S0 sn sc))):=fun W' hW=>by have e1:=HKB.out.later (HBB.out.later hW) hbk;have e2:=HKQ.out.later (HBB.out.later hW) hqk;have e3:=HX0.out.later hW HX0.out.lt;have e4:=HX1.out.later hW HX1.out.lt;exact⟨(e1.cell 0).trans rfl,(e1.cell 1).trans rfl,(e1.cell 2).trans rfl,(e1.cell 3).trans rfl,(e2.cell 3).trans rfl,(e2.cell 4).trans rfl,(e3.cell 0).trans rfl,(e4.cell 0).trans rfl⟩
 clear s2 s3 t1 t2 hkb hkq hbs hxs hys htab hp hxk hyk;generalize zJV d.desc kk x y=R at *;generalize vZ (F (.slice R0 rn rc)) (F (.slice S0 sn sc))=o at *;clear hFx hFy;go_enter Tryz.func113,Tryz.ntmps113;go_wp2_with fail;rw[←hWB];clear hWB HB0;obtain⟨z0,z1,z2,z3,z4,z5,z6,z7⟩:=HRd.out _ (Below.refl _ _)
 go_region_held3 (fun W'=>W'.cell? ⟨bk,0,none⟩=some (.string b.name)∧W'.cell? ⟨bk,1,none⟩=some (.string b.glob)∧W'.cell? ⟨bk,2,none⟩=some (.slice A2 n2 p2)∧W'.cell? ⟨bk,3,none⟩=some (.slice A3 n3 p3)∧W'.cell? ⟨qk,3,none⟩=some (.string d.order)∧W'.cell? ⟨qk,4,none⟩=some (.bool d.desc)∧W'.cell? ⟨w.heap.size,0,none⟩=some (.slice R0 rn rc)∧W'.cell? ⟨w.heap.size+1,0,none⟩=some (.slice S0 sn sc))
  (first | exact HRd.out _ hb3 | exact HRd.out _ hb2 | exact HRd.out _ hb1 | exact HRd.out _ (Below.refl WB.heap.size WB).drew)
  (first
    | (go_at_call 114;refine(HKc.out _ (by exact HBB.out.later hb2)).mono ?_;rintro e w3 ⟨rfl,hb3'⟩;have hb3:=hb2.later hb3';clear hb3')
    | (go_at_call 85;refine(HK2.out _ (by exact HBB.out.later hb1) _ (by first | exact Or.inl rfl | exact Or.inr rfl)).mono ?_;rintro e w2 ⟨rfl,hb2'⟩;have hb2:=hb1.later hb2';clear hb2')
    | (go_at_call 85;refine(HK2.out _ (by exact HBB.out.drew) _ (by first | exact Or.inl rfl | exact Or.inr rfl)).mono ?_;rintro e w1 ⟨rfl,hb1'⟩;have hb1:=wD hb1';clear hb1'))
 all_goals
  as_aux_lemma =>
   obtain⟨z0,z1,z2,z3,z4,z5,z6,z7⟩:=HRd.out _ hb3;have HB3:=zh (HBB.out.later hb3);have hqz:=(HKQ.out.later HB3.out hqk).lt;clear hb1 hb2 hb3;generalize d.desc=ds at *;cases ds
   · have HE:Hid (R=o):=by unfold Hid;rw[HR.out];rfl
     go_wp2_with fail;go_ret;exact⟨zC0 HE.out.symm,HB3.out⟩
   · have HE:Hid (R=-o):=by unfold Hid;rw[HR.out];rfl
     go_wp2_with fail;go_ret;exact⟨zC0 (by rw[HE.out];try exact(IntWalk.i64_in _ (by omega)).symm),HB3.out⟩
end Go.Proofs.YtfpcjhajjejpdaaGreatDoor
