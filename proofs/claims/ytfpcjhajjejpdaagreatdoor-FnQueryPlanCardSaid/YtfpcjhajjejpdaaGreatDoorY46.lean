import Derived.Test.YtfpcjhajjejpdaaGreatDoorY42
import Derived.Test.YtfpcjhajjejpdaaGreatDoorY45
import Derived.Test.YtfpcjhajjejpdaaGreatDoorY22
import Derived.Test.YtfpcjhajjejpdaaGreatDoorY37
import Derived.Test.YtfpcjhajjejpdaaGreatDoorY12
import Derived.Test.YtfpcjhajjejpdaaGreatDoorY25
import Derived.Deep.DeepCutAuto
set_option maxHeartbeats 8000000
open Go.Lib renaming hid → zh
namespace Go.Proofs.YtfpcjhajjejpdaaGreatDoor
open Go.RowKit
set_option linter.unusedVariables false
theorem RowsRd.take {w:World} {B n k:Nat} {A:Option Addr} {rs:List (List ByteArray)} (h:RowsRd w B A n rs) (hk:k≤n):RowsRd w B A k (rs.take k):=by
 refine⟨by rw[List.length_take,h.1];omega,fun hp=>?_⟩;obtain⟨b,o,e,hb,hc⟩:=h.2 (by omega);refine⟨b,o,e,hb,fun j hj=>?_⟩;obtain⟨v,h1,h2⟩:=hc j (by omega);refine⟨v,h1,?_⟩;rw[List.getD_eq_getElem?_getD,List.getElem?_take,if_pos hj,←List.getD_eq_getElem?_getD];exact h2
theorem zLt (st:List ByteArray→Bool) (rs:List (List ByteArray)):(rs.filter fun r=>!(!st r))=rs.filter st:=by
 congr 1
 funext r
 simp
set_option maxRecDepth 100000 in
theorem zFg (A:Option Addr) (cap:Nat) (fv:Value) (w:World) :
 Calls Tryz.prog 201 #[.slice A 0 cap,.int .i64 0,.int .i64 0,fv] w fun e w'=>e=.returned (.tuple #[])∧w=w':=by
 go_enter Tryz.func201,Tryz.ntmps201;go_wp2_with fail;refine wp_loop_rounds 1 ?_;rw[rounds_succ];go_wp2_with fail
 go_end0
 exact⟨rfl,rfl⟩
set_option maxRecDepth 100000 in
theorem zHG (A:Option Addr) (cap:Nat) (fv:Value) (w:World) :
 Calls Tryz.prog 167 #[.slice A 0 cap,.int .i64 0,fv] w fun e w'=>e=.returned (.tuple #[])∧w=w':=by
 have HK:=zh (fun W=>zFg A cap fv W);go_enter Tryz.func167,Tryz.ntmps167;go_wp2_with fail;refine wp_loop_rounds 1 ?_;rw[rounds_succ];go_wp2_with fail;refine(HK.out _).mono ?_;rintro e w1 ⟨rfl,rfl⟩;go_wp2_with fail;refine wp_loop_rounds 1 ?_;rw[rounds_succ];go_wp2_with fail
 go_end0
 exact⟨rfl,rfl⟩
set_option maxRecDepth 100000 in
theorem zEo (A:Option Addr) (cap:Nat) (fv:Value) (w:World) :
 Calls Tryz.prog 112 #[.slice A 0 cap,fv] w fun e w'=>e=.returned (.tuple #[])∧w=w':=by
 have HK:=zh (fun W=>zHG A cap fv W);go_enter Tryz.func112,Tryz.ntmps112;go_wp2_with fail;refine(HK.out _).mono ?_;rintro e w1 ⟨rfl,rfl⟩;go_wp2_with fail
 go_end0
 exact⟨rfl,rfl⟩
def zDn (cols r:List ByteArray):Prop:=wH r∧r.length=cols.length
set_option maxRecDepth 100000 in
theorem zEP (A:Option Addr) (n c:Nat) (b0 b1 b2 b3 c0 c1 c2 c3 c4 c5:Value) (b:TableD) (d:QueryD) (rs:List (List ByteArray)) (w:World) (htab:uX w) (hb:TableR w w.heap.size b0 b1 b2 b3 b) (h:QueryR w w.heap.size c0 c1 c2 c3 c4 c5 d) (hr:RowsRd w w.heap.size A n rs) (hbs:b.small) (hs:d.small) (hrs:∀r∈rs,wH r) (hn:n≤24)
 (hfit:∀c∈d.wher,0≤xA b.cols c.col) (hord:d.order≠⟨#[]⟩→0≤xA b.cols d.order) (hcol:∀c∈d.cols,0≤xA b.cols c) (hlim:0≤d.limit) (hlim2:d.limit≤24) (hlen:∀r∈rs,r.length=b.cols.length) :
 Calls Tryz.prog 46 #[.agg #[b0,b1,b2,b3],.agg #[c0,c1,c2,c3,c4,c5],.slice A n c] w (zCj (wP b d rs) w):=by
 obtain⟨i0,hi,hz0,hz1,hz2⟩:=info_parts yU;obtain⟨j0,hj,hk0,hk1,hk2⟩:=info_parts zAO;have HTT:=zh hb;have HQQ:=zh h;have HRR:=zh hr;have HLen:=zh hr.1;have HTAB:=zh htab;have HKs:=zh (fun W (hW:Below w.heap.size w W)=>zGU b0 b1 b2 b3 c0 c1 c2 c3 c4 c5 b d W (hb.later hW) (h.later hW));have HKcell:=zh (fun W (hW:Below w.heap.size w W) r0 row col j (hrr:RowR W W.heap.size r0 row) (hp:xA b.cols col=(j:Nat)) (hj:j<row.length)=>zDi b0 b1 b2 b3 r0 b row col j W (hb.later hW) hrr hbs hp hj);have HMD:Hid (wP b d rs=(zBy d.limit (uN b.cols d (rs.filter (yI b.cols d.wher)))).map (wO b.cols (zAd b d))):=rfl;have HRG:=zh (fun r (hm:r∈rs)=>(⟨hrs r hm,hlen r hm⟩:zDn b.cols r));have HR1:=zh (fun bk qk W (hW:Below w.heap.size w W) (hkb:Blk W bk 29 #[b0,b1,b2,b3]) (hkq:Blk W qk 32 #[c0,c1,c2,c3,c4,c5]) r0 row (hm:row∈rs) (hrr:RowR W W.heap.size r0 row)=>zHN bk qk b0 b1 b2 b3 c0 c1 c2 c3 c4 c5 r0 b d row W (vF htab hW) hkb hkq (hb.later hW) (h.later hW) hrr hbs hs (hrs row hm) hfit (hlen row hm));have HR2:=zh (fun bk qk W (hW:Below w.heap.size w W) (hkb:Blk W bk 29 #[b0,b1,b2,b3]) (hkq:Blk W qk 32 #[c0,c1,c2,c3,c4,c5]) x0 y0 x y (hx:zDn b.cols x) (hy:zDn b.cols y) (hxr:RowR W W.heap.size x0 x) (hyr:RowR W W.heap.size y0 y) (ho:d.order≠⟨#[]⟩)=>zHM bk qk b0 b1 b2 b3 c0 c1 c2 c3 c4 c5 x0 y0 b d x y (xA b.cols d.order).toNat W (vF htab hW) hkb hkq (hb.later hW) (h.later hW) hxr hyr hbs hx.1 hy.1 (by have:=hord ho;omega) (by rw[hx.2];have h1:=hord ho;have h2:=(xD b.cols d.order).2;omega) (by rw[hy.2];have h1:=hord ho;have h2:=(xD b.cols d.order).2;omega));obtain⟨rfl,rfl,⟨A2,n2,p2,rfl,s2,k2⟩,⟨A3,n3,p3,rfl,s3,k3⟩⟩:=hb;obtain⟨rfl,⟨B1,m1,q1,rfl,t1,l1⟩,⟨B2,m2,q2,rfl,t2,l2⟩,rfl,rfl,rfl⟩:=h
 have HSV:∃(SA:Option Addr) (sn sp:Nat),(if d.cols.length=0 then Value.slice A2 n2 p2 else .slice B1 m1 q1)=.slice SA sn sp∧Strs w w.heap.size SA sn (zAd b d)∧(∀t,t<(zAd b d).length→∃j,xA b.cols ((zAd b d).getD t ByteArray.empty)=(j:Nat)∧j<n2)∧sn≤1048576:=by
  by_cases h0:d.cols.length=0
  · have hsb:zAd b d=b.cols:=by unfold zAd;rw[if_pos h0]
    refine⟨A2,n2,p2,by rw[if_pos h0],by rw[hsb];exact s2,fun t ht=>?_,by rw[←s2.1];exact hbs.2.2.1.1⟩;rw[hsb]at ht ⊢;have h1:=zCT (uD b.cols t ht);have h2:=(xD b.cols (b.cols.getD t ByteArray.empty)).2;rw[s2.1]at h2;exact⟨(xA b.cols (b.cols.getD t ByteArray.empty)).toNat,by omega,by omega⟩
  · have hsb:zAd b d=d.cols:=by unfold zAd;rw[if_neg h0]
    refine⟨B1,m1,q1,by rw[if_neg h0],by rw[hsb];exact t1,fun t ht=>?_,by rw[←t1.1];exact hs.2.1.1⟩;rw[hsb]at ht ⊢;have h1:=hcol _ (uD d.cols t ht);have h2:=(xD b.cols (d.cols.getD t ByteArray.empty)).2;rw[s2.1]at h2;exact⟨(xA b.cols (d.cols.getD t ByteArray.empty)).toNat,by omega,by omega⟩
 obtain⟨SA,sn,sp,hsv,hsel,hpk,hsnb⟩:=HSV;rw[hsv]at HKs;have HSEL:=zh hsel;have HPK:=zh hpk;have HL2:=zh s2.1;have HB0:=zh ((Below.new w (.cells #[.string b.name,.string b.glob,.slice A2 n2 p2,.slice A3 n3 p3] 29)).later (Below.new _ (.cells #[.string d.table,.slice B1 m1 q1,.slice B2 m2 q2,.string d.order,.bool d.desc,.int .i64 d.limit] 32)));obtain⟨w0,hW0⟩:∃w0,w0=(w.alloc (.cells #[.string b.name,.string b.glob,.slice A2 n2 p2,.slice A3 n3 p3] 29)).alloc (.cells #[.string d.table,.slice B1 m1 q1,.slice B2 m2 q2,.string d.order,.bool d.desc,.int .i64 d.limit] 32):=⟨_,rfl⟩;have HX0:Hid (Blk w0 w.heap.size 29 #[.string b.name,.string b.glob,.slice A2 n2 p2,.slice A3 n3 p3]):=by subst hW0;exact yC _ _ _
 have HX1:Hid (Blk w0 (w.heap.size+1) 32 #[.string d.table,.slice B1 m1 q1,.slice B2 m2 q2,.string d.order,.bool d.desc,.int .i64 d.limit]):=by subst hW0;exact vB _ _ _
 have HBB:Hid (Below w.heap.size w w0):=by subst hW0;exact HB0.out
 have Hz0:Hid (w0.heap.size=w.heap.size+1+1):=by subst hW0;simp[Hid]
 have HRd:Hid (∀W',Below w0.heap.size w0 W'→(W'.cell? ⟨w.heap.size,0,none⟩=some (.string b.name)∧W'.cell? ⟨w.heap.size,1,none⟩=some (.string b.glob)∧W'.cell? ⟨w.heap.size,2,none⟩=some (.slice A2 n2 p2)∧W'.cell? ⟨w.heap.size,3,none⟩=some (.slice A3 n3 p3)∧W'.cell? ⟨w.heap.size+1,0,none⟩=some (.string d.table)∧W'.cell? ⟨w.heap.size+1,1,none⟩=some (.slice B1 m1 q1)∧W'.cell? ⟨w.heap.size+1,2,none⟩=some (.slice B2 m2 q2)∧W'.cell? ⟨w.heap.size+1,3,none⟩=some (.string d.order)∧W'.cell? ⟨w.heap.size+1,4,none⟩=some (.bool d.desc)∧W'.cell? ⟨w.heap.size+1,5,none⟩=some (.int .i64 d.limit))):=fun W' hW=>by have e0:=HX0.out.later hW HX0.out.lt;have e1:=HX1.out.later hW HX1.out.lt;exact⟨e0.at 0 rfl,e0.at 1 rfl,e0.at 2 rfl,e0.at 3 rfl,e1.at 0 rfl,e1.at 1 rfl,e1.at 2 rfl,e1.at 3 rfl,e1.at 4 rfl,e1.at 5 rfl⟩
 have hzb:w.heap.size<w0.heap.size:=by rw[Hz0.out];omega
 have hzc:w.heap.size+1<w0.heap.size:=by rw[Hz0.out];omega
 have HRR0:=zh (HRR.out.later HBB.out);have HKC:=zh (zKm w0 A n c rs w0 HRR0.out (Below.refl _ _) (by omega));have HPred:Hid (zHs 109 #[.pointer (some ⟨w.heap.size+1,0,none⟩),.pointer (some ⟨w.heap.size,0,none⟩)] (fun r=>!yI b.cols d.wher r) rs w0):=fun r hm r0 W hW hrr=>HR1.out w.heap.size (w.heap.size+1) W (HBB.out.later hW) (HX0.out.later hW HX0.out.lt) (HX1.out.later hW HX1.out.lt) r0 r hm hrr;have HKD:=zh (fun v cs W (ho:W.ownsRow w0.heap.size 40 1 v rs.length cs) (hc:CellsG 1 (zY0 w0 w0.heap.size) rs cs) (hW:Below w0.heap.size w0 W)=>zEr 109 #[.pointer (some ⟨w.heap.size+1,0,none⟩),.pointer (some ⟨w.heap.size,0,none⟩)] (fun r=>!yI b.cols d.wher r) v rs cs w0 W (zY0 w0 w0.heap.size) (fun _ _ h=>h) ho hc hW (by rw[HLen.out];omega) (enters_of Tryz.func109 (by kernel_rfl) rfl) HPred.out);have HNN:=zh (zLt (yI b.cols d.wher) rs);rw[HNN.out]at HKD;have HFl:=zh (List.length_filter_le (yI b.cols d.wher) rs);have HFm:=zh (fun x (hx:x∈rs.filter (yI b.cols d.wher))=>(List.mem_filter.1 hx).1);have HLIM:=zh hlim;have HLIM2:=zh hlim2;have HCmp:Hid (d.order≠⟨#[]⟩→CmpOk 113 #[.pointer (some ⟨w.heap.size,0,none⟩),.pointer (some ⟨w.heap.size+1,0,none⟩)] (zJV d.desc (xA b.cols d.order).toNat) (zDn b.cols) w0):=fun ho x y x0 y0 W hW hx hy hxr hyr=>HR2.out w.heap.size (w.heap.size+1) W (HBB.out.later hW) (HX0.out.later hW HX0.out.lt) (HX1.out.later hW HX1.out.lt) x0 y0 x y hx hy hxr hyr ho;have HSD:Hid (uN b.cols d (rs.filter (yI b.cols d.wher))=if d.order=⟨#[]⟩ then rs.filter (yI b.cols d.wher) else Stab.srt (ltK d.desc (xA b.cols d.order).toNat) (rs.filter (yI b.cols d.wher))):=rfl;clear s2 s3 t1 t2 hbs hs hrs hfit hord hcol hlen hr hlim hlim2 htab hsv hsel hpk HR1 HR2 HNN HPred HTT HQQ;generalize rs.filter (yI b.cols d.wher)=L0 at *;obtain⟨LS,hLS⟩:∃LS,LS=uN b.cols d L0:=⟨_,rfl⟩;have HLS:=zh hLS;rw[←hLS]at HMD HSD;clear hLS;go_enter Tryz.func46,Tryz.ntmps46;go_wp2_with fail;rw[←hW0];clear hW0 HB0;refine HKC.out.mono ?_;rintro e w1 ⟨v1,cs1,rfl,ho1,hc1,hb1⟩;have HK2:=zh (HKD.out v1 cs1 w1 ho1 hc1 hb1);clear ho1 hc1 hb1 HKC HKD;go_wp2_with fail;refine HK2.out.mono ?_;rintro e w2 ⟨v2,cs2,rfl,ho2,hc2,hb2⟩;have HO2:=zh ho2;have HC2:=zh hc2;have HB2:=zh hb2;clear ho2 hc2 hb2 HK2;obtain⟨x0,x1,x2,x3,x4,x5,x6,x7,x8,x9⟩:=HRd.out _ HB2.out
 go_upto_if 19 with fail
 obtain⟨A1,cap1,e2,hcap1,hrd2⟩:=zAe HO2.out rfl HC2.out HB2.out;subst e2;have HRD2:=zh hrd2;have hL24:L0.length≤24:=by have h1:=HFl.out;rw[HLen.out]at h1;omega
 clear hrd2;obtain⟨bo,hbo⟩:∃bo:Bool,bo=!d.order.toList.isEmpty:=⟨_,rfl⟩;rw[←hbo]
 go_cut [2] (fun v wx=>∃(A1:Option Addr) (m cap1:Nat),v=.slice A1 m cap1∧m≤cap1∧m≤24∧Hid (RowsRd wx wx.heap.size A1 m LS)∧Hid (Below w0.heap.size w0 wx))
 case first=>as_aux_lemma =>
  by_cases ho:d.order=⟨#[]⟩
  · have hoi:d.order.toList.isEmpty=true:=by rw[ho,wE];rfl
    have hoi2:bo=false:=by rw[hbo,hoi];rfl
    clear hbo hoi;subst hoi2;have HE:Hid (LS=L0):=by unfold Hid;rw[HSD.out,if_pos ho]
    clear ho;go_wp2_with fail
    go_meet
    case rel=>exact⟨A1,L0.length,cap1,rfl,hcap1,hL24,by rw[HE.out];exact HRD2.out,HB2.out⟩
  · have HE:Hid (LS=Stab.srt (ltK d.desc (xA b.cols d.order).toNat) L0):=by unfold Hid;rw[HSD.out,if_neg ho]
    have HCm:=zh (HCmp.out ho);have hoe:=zB0 ho;have hon:=yJ ho;have hoe3:=wJ ho;have hoe4:=zFf ho;have hoe5:bo=true:=by rw[hbo,hoe4];rfl
    clear hbo;subst hoe5;clear ho;rcases Nat.eq_zero_or_pos L0.length with hz | hz
    · have HLz:=zh hz;have HZ:=zh (zEo A1 cap1 (.func (.func 113) #[] #[.pointer (some ⟨w.heap.size,0,none⟩),.pointer (some ⟨w.heap.size+1,0,none⟩)]) w2);have HE0:Hid (LS=[]):=by unfold Hid;rw[HE.out];exact List.eq_nil_of_length_eq_zero (by rw[Stab.srt_len];exact hz)
      rw[hz];clear hz;go_wp2_with fail;refine HZ.out.mono ?_;rintro e w3 ⟨rfl,rfl⟩;go_wp2_with fail
      go_meet
      case rel=>exact⟨A1,0,cap1,rfl,Nat.zero_le _,by omega,by rw[HE0.out];exact⟨rfl,fun h=>absurd h (by omega)⟩,HB2.out⟩
    · obtain⟨_,_,e3,_,_,hA⟩:=Own.own_slice HO2.out;injection e3 with e3 _ e4;subst e3 e4;obtain⟨g,rfl,_,_⟩:=hA hz;have HK:=zh (zFF 113 #[.pointer (some ⟨w.heap.size,0,none⟩),.pointer (some ⟨w.heap.size+1,0,none⟩)] (zJV d.desc (xA b.cols d.order).toNat) (ltK d.desc (xA b.cols d.order).toNat) (zDn b.cols) w0 (zMm _ _) (zNl _ _) HCm.out (enters_of Tryz.func113 (by kernel_rfl) rfl) g L0.length cap1 hL24 (zAb L0 cs2) w2 (zIr HO2.out HC2.out (fun r hr=>HRG.out r (HFm.out r hr)) HB2.out));have HIS:=zh (zLl L0 cs2 (n:=L0.length) rfl);clear hA hz;go_wp2_with fail;refine HK.out.mono ?_;rintro e w3 ⟨rfl,d3,hS3,hE3⟩;obtain⟨hown3,hcs3⟩:=zLn hS3;have hsn:(Stab.seg d3 0 L0.length).map Prod.snd=LS:=by rw[hE3,zMM,HIS.out,HE.out]
      rw[hsn]at hcs3;have hl3:LS.length=L0.length:=by rw[HE.out,Stab.srt_len]
      obtain⟨_,_,e5,hc5,hrd5⟩:=zAe hown3 hl3 hcs3 hS3.below;injection e5 with e5 _ e6;subst e5 e6;have HR5:=zh hrd5;have HB5:=zh hS3.below;clear hS3 hE3 hown3 hcs3 hsn hl3 hrd5;go_wp2_with fail
      go_meet
      case rel=>exact⟨_,L0.length,cap1,rfl,hcap1,hL24,HR5.out,HB5.out⟩
 case rest=>as_aux_lemma =>
 clear hbo HRD2 HO2 HC2 hcap1 HB2 HSD HCmp x0 x1 x2 x3 x4 x5 x6 x7 x8 x9 hL24;obtain⟨A1,m,cap1,rfl,hmc,hm24,HRD,HB3⟩:=hcut;obtain⟨W3,rfl⟩:∃W3,W3=wc:=⟨wc,rfl⟩;obtain⟨x0,x1,x2,x3,x4,x5,x6,x7,x8,x9⟩:=HRd.out _ HB3.out;obtain⟨K,hK⟩:∃K,K=(zBy d.limit LS).length:=⟨_,rfl⟩;have HKd:Hid (K=if d.limit=0 then m else min m d.limit.toNat):=by unfold Hid;rw[hK,zHh d.limit LS,HRD.out.1]
 have HKK:=zh hK
 have HCut:Hid (RowsRd W3 W3.heap.size A1 K (zBy d.limit LS)):=by
  have h1:=HKd.out;unfold zBy;by_cases h0:d.limit=0
  · rw[if_pos h0]at h1 ⊢;rw[h1];exact HRD.out
  · rw[if_neg h0]at h1 ⊢;have h2:=HRD.out.take (k:=K) (by omega)
    have h3:LS.take K=LS.take d.limit.toNat:=by
     rw[h1];rcases Nat.le_total m d.limit.toNat with h | h
     · rw[Nat.min_eq_left h,List.take_of_length_le (by rw[HRD.out.1];exact Nat.le_refl _),List.take_of_length_le (by rw[HRD.out.1];exact h)]
     · rw[Nat.min_eq_right h]
    rw[h3]at h2;exact h2
 have hK24:K≤m:=by have h:=HKd.out;split at h <;> omega
 clear hK
 go_upto_if 25 with fail
 go_cut [2] (fun v wx=>v=.slice A1 K cap1∧wx=W3)
 case first=>as_aux_lemma =>
  by_cases h0:d.limit=0
  · have HE:Hid (K=m):=by have h:=HKd.out;rw[if_pos h0]at h;exact h
    rw[h0]at x9;go_wp2_with fail
    go_meet
    case rel=>exact⟨by rw[HE.out],rfl⟩
  · have i1:=yF h0;have i2:(d.limit != 0)=true:=by rw[bne,i1];rfl
    have i3:min (m:Int) d.limit=(K:Int):=by have h:=HKd.out;have h2:=HLIM.out;rw[if_neg h0]at h;omega
    have i4:(K:Int)≤(m:Int):=by omega
    have i5:(K:Int)≤(cap1:Int):=by omega
    go_wp2_with fail
    go_meet
    case rel=>exact⟨rfl,rfl⟩
 case rest=>as_aux_lemma =>
 obtain⟨rfl,rfl⟩:=hcut;obtain⟨W3,rfl⟩:∃W3,W3=wc:=⟨wc,rfl⟩;obtain⟨CL,hCL⟩:∃CL,CL=zBy d.limit LS:=⟨_,rfl⟩;rw[←hCL]at HCut HKK HMD
 have HCLg:Hid (∀q,q<K→(CL.getD q default).length=n2):=fun q hq=>by
  have h1:=uB CL q (by rw[HCut.out.1];exact hq)
  have h2:CL.getD q default∈LS:=by
   rw[hCL]at h1;unfold zBy at h1;split at h1
   · rw[hCL];unfold zBy;rw[if_pos ‹_›];exact h1
   · rw[hCL];unfold zBy;rw[if_neg ‹_›];exact List.mem_of_mem_take h1
  have h3:CL.getD q default∈L0:=by rw[HLS.out]at h2;exact zDz h2
  have h4:=(HRG.out _ (HFm.out _ h3)).2;rw[h4];exact HL2.out
 have hKn:K≤24:=by omega
 clear hCL HKd HRD;generalize zAd b d=SEL at *;clear x0 x1 x2 x3 x4 x5 x6 x7 x8 x9;have HB3w:=zh (HBB.out.later HB3.out);go_wp2_with fail;go_loopw [7,36] (fun v i wr2=>∃(q:Nat) (acc:List (List ByteArray)),q≤K∧i=.int .i64 q∧Hid (acc=(CL.take q).map (wO b.cols SEL))∧Hid (acc.length=q)∧Hid (RowsI wr2 W3.heap.size v acc)∧Hid (Below W3.heap.size W3 wr2)) (fun _ i _=>K-(intOf i).toNat);case atStart=>exact⟨0,[],Nat.zero_le _,rfl,by simp[Hid],rfl,uJ W3 _ (Nat.le_refl _),Below.new _ _⟩
 case round =>
  obtain⟨q,acc,hq,rfl,hacc,haccl,hRI,HB4⟩:=hrel;obtain⟨W4,rfl⟩:∃W4,W4=wr:=⟨wr,rfl⟩;by_cases hqK:q<K
  · obtain⟨lb,lo,rfl,hlb,hlc⟩:=(HCut.out.later HB4.out).2 (by omega);obtain⟨lv,hlv,hlr⟩:=hlc q hqK;have hrl:=HCLg.out q hqK;have HPr:=zh (zHU (wO b.cols SEL) CL q (by rw[HCut.out.1];exact hqK));have HLR:=zh hlr;obtain⟨S0,ln,lc,rfl,hlS,_⟩:=hlr;have hjb:Hid (∀j,j<n2→j<(CL.getD q default).length):=fun j hj=>by rw[hrl];exact hj
    clear hlc hlS hrl;generalize CL.getD q default=lrow at *;have HWa:=zh (Below.new W4 (.cells #[.slice S0 ln lc] 40));have HWb:=zh (HWa.out.later (Below.new _ (.cells #[] 9)));obtain⟨W5,hW5⟩:∃W5,W5=(W4.alloc (.cells #[.slice S0 ln lc] 40)).alloc (.cells #[] 9):=⟨_,rfl⟩;have HXr:Hid (Blk W5 W4.heap.size 40 #[.slice S0 ln lc]):=by subst hW5;exact yC _ _ _
    rw[←hW5]at HWb;have HO5:Hid (W5.ownsRow W4.heap.size 9 1 (.slice (some ⟨W4.heap.size+1,0,none⟩) 0 0) 0 []):=by subst hW5;have h:=World.ownsRow_lit (base:=W4.heap.size) (e:=9) (size:=1) (W4.alloc (.cells #[.slice S0 ln lc] 40)) #[] 0 (by simp) (by omega) rfl;unfold Hid;simpa using h
    have HB5:=zh (HB3.out.later (HB4.out.later HWb.out));obtain⟨y0,y1,y2,y3,y4,y5,y6,y7,y8,y9⟩:=HRd.out _ HB5.out;rw[hW5]at y0 y1 y2 y3 y4 y5 y6 y7 y8 y9;have HKsel:=zh (HKs.out W5 (HBB.out.later HB5.out));have hqKz:(q:Int)<(K:Int):=by omega
    clear HWa;go_wp2_with fail;rw[←hW5];clear hW5;refine HKsel.out.mono ?_;rintro e w6 ⟨rfl,hb6⟩;have HB6:=zh (HWb.out.later hb6);have HO6:=zh (Own.own_later HO5.out hb6);have HXr6:=zh (HXr.out.later hb6 HXr.out.lt);have HLR6:=zh (HLR.out.later HB6.out);have HSEL6:=zh (HSEL.out.later (HB3w.out.later (HB4.out.later HB6.out)));have HX6:=zh (HB3.out.later (HB4.out.later HB6.out));clear hb6 HKsel HWb HO5 HXr y0 y1 y2 y3 y4 y5 y6 y7 y8 y9;go_wp2_with fail;go_loopw [10,45] (fun v i wr3=>∃(t:Nat),t≤sn∧i=.int .i64 t∧Hid (wr3.ownsRow W4.heap.size 9 1 v t (((SEL.take t).map fun c=>lrow.getD (xA b.cols c).toNat ByteArray.empty).map Value.string))∧Hid (Blk wr3 W4.heap.size 40 #[.slice S0 ln lc])∧Hid (Below W4.heap.size W4 wr3)) (fun _ i _=>sn-(intOf i).toNat);case atStart=>exact⟨0,Nat.zero_le _,rfl,by simpa [Hid] using HO6.out,HXr6.out,HB6.out⟩
    case round =>
     obtain⟨t,ht,rfl,hO,hX,hB7⟩:=hrel;have HB7w:=zh (HB3w.out.later (HB4.out.later hB7.out));have HB7x:=zh (HB3.out.later (HB4.out.later hB7.out));by_cases hlt3:t<sn
     · have hsl:t<SEL.length:=by rw[HSEL.out.1];exact hlt3
       obtain⟨j,hj1,hj2⟩:=HPK.out t hsl;have HMS:=zh (zGo (fun c=>lrow.getD (xA b.cols c).toNat ByteArray.empty) SEL t hsl);obtain⟨sb,so,rfl,hsb,hsc⟩:=(HSEL.out.later HB7w.out).2 (by omega);have hcn:=hsc t hlt3;have HKc:=zh (HKcell.out wr HB7w.out (.slice S0 ln lc) lrow (SEL.getD t ByteArray.empty) j (HLR.out.later hB7.out) hj1 (hjb.out j hj2));have HPV:Hid (lrow.getD (xA b.cols (SEL.getD t ByteArray.empty)).toNat ByteArray.empty=lrow.getD j ByteArray.empty):=by unfold Hid;rw[hj1];rfl
       rw[HPV.out]at HMS;have htz:(t:Int)<(sn:Int):=by omega
       obtain⟨y0,y1,y2,y3,y4,y5,y6,y7,y8,y9⟩:=HRd.out _ HB7x.out;have px:=hX.out.cell 0;have zx:=hX.out.lt;simp at px;have hz5:=hB7.out.size;generalize SEL.getD t ByteArray.empty=cnm at *;generalize lrow.getD j ByteArray.empty=cell at *;generalize hXS:((SEL.take t).map fun c=>lrow.getD (xA b.cols c).toNat ByteArray.empty)=XS at *;clear hsc hj1 hj2 hsl hXS;go_wp2_with fail;refine HKc.out.mono ?_;rintro e w8 ⟨rfl,hb8⟩;have HO8:=zh (Own.own_later hO.out hb8);have HX8:=zh (hX.out.later hb8 zx);have HB8:=zh (hB7.out.later hb8);have hz8:=HB8.out.size;have hrow:Hid (∀oo,(w8.alloc oo).ownsRow W4.heap.size 9 1 _ t (XS.map Value.string)):=fun oo=>Own.own_later HO8.out (Below.new _ _);clear hb8 y0 y1 y2 y3 y4 y5 y6 y7 y8 y9 px;go_wp2_with (at_builtin;refine wpList_append_own _ rfl (.tmp 49) (.tmp 54) 27 rfl W4.heap.size 9 j0 _ 1 16 Tryz.underlying27 hj hk0 hk1 hk2 rfl (by decide) _ t _ rfl (hrow.out _) ⟨_,0,none⟩ 1 1 [.string cell] rfl rfl ?n1 ?n2 ?n3 ?n4 ?n5 ?_);all_goals try (first | exact wC _ #[.string cell] _ _ (by simp) | (simp[Value.oneCell'];done) | (unfold maxLen;omega) | omega | (simp;omega))
       intro v9 w9 hown9 hg9 _;have HO9:Hid (w9.ownsRow W4.heap.size 9 1 v9 (t+1) (((SEL.take (t+1)).map fun c=>lrow.getD (xA b.cols c).toNat ByteArray.empty).map Value.string)):=by unfold Hid;rw[HMS.out,List.map_append];exact hown9
       have HX9:=zh ((HX8.out.alloc (.cells #[.string cell] 9)).grown hg9 (fun e=>Own.own_blk_ne HO8.out HX8.out (by decide) e.symm));have HB9:=zh ((HB8.out.later (Below.new w8 (.cells #[.string cell] 9))).grown hg9 (by have:=HB8.out.size;simp;omega) (fun g hg'=>((hrow.out (.cells #[] 0)).lt g hg').1));clear hown9 hg9;go_wp2_with fail;go_roundw;case rel=>exact⟨t+1,by omega,by go_num,HO9.out,HX9.out,HB9.out⟩
       case measure=>simp[intOf];omega
     · obtain rfl:t=sn:=by omega
       have hpl:SEL.take t=SEL:=List.take_of_length_le (by rw[HSEL.out.1];exact Nat.le_refl _);have hPB:((SEL.take t).map fun c=>lrow.getD (xA b.cols c).toNat ByteArray.empty)=wO b.cols SEL lrow:=by rw[hpl];rfl
       have hpbl:(wO b.cols SEL lrow).length=t:=by unfold wO;rw[List.length_map];exact HSEL.out.1
       have hown:=hO.out;rw[hPB]at hown;obtain⟨A4,c4,e4,_,_,_⟩:=Own.own_slice hown;subst e4;have HSub:Hid (Own.SubO wr W4.heap.size (.slice A4 t c4) (wO b.cols SEL lrow)):=by unfold Hid Own.SubO;rw[hpbl];exact hown
       clear hpl hPB hown;obtain⟨vs,hRW⟩:=hRI.out;have HRW:=zh hRW;have HRW3:=zh (hRW.later hB7.out);have HAP:=zh (Own.OwnL.fresh hRW HSub.out (Nat.le_refl _));have hrow:Hid (∀oo,(wr.alloc oo).ownsRow W3.heap.size 40 1 _ acc.length (Own.flat rowK acc vs)):=fun oo=>Own.own_later HRW3.out.row (Below.new _ _);have haql:=haccl.out;have hz34:=HB4.out.size;have hz45:=hB7.out.size;have px:=hX.out.cell 0;have zx:=hX.out.lt;simp at px;clear hRW hpbl;rw[haql]at hrow;go_wp2_with (at_builtin;refine wpList_append_own _ rfl (.tmp 57) (.tmp 60) 35 rfl W3.heap.size 40 i0 _ 1 24 Tryz.underlying35 hi hz0 hz1 hz2 rfl (by decide) _ q _ rfl (hrow.out _) ⟨_,0,none⟩ 1 1 [.slice A4 t c4] rfl rfl ?m1 ?m2 ?m3 ?m4 ?m5 ?_);all_goals try (first | exact wC _ #[.slice A4 t c4] _ _ (by simp) | (simp[Value.oneCell'];done) | (unfold maxLen;omega) | omega | (simp;omega))
       intro v9 w9 hown9 hg9 _;have HN9:Hid (RowsI w9 W3.heap.size v9 (acc++[wO b.cols SEL lrow])):=by have hX6:Own.SubO (wr.alloc (.cells #[.slice A4 t c4] 40)) W3.heap.size (.slice A4 t c4) (wO b.cols SEL lrow):=Own.own_base (Own.own_later HSub.out (Below.new _ _)) (by omega);refine⟨vs++[.slice A4 t c4],Own.OwnL.snoc (HRW3.out.later (Below.new wr (.cells #[.slice A4 t c4] 40))) hX6 HAP.out ?_ hg9 (by decide)⟩;show w9.ownsRow W3.heap.size 40 1 v9 (acc.length+1) (Own.flat rowK acc vs++[.slice A4 t c4]);rw[haql];exact hown9
       have HB9:=zh (((HB4.out.trans (hB7.out.mono hz34)).later (Below.new wr (.cells #[.slice A4 t c4] 40))).grown hg9 (by simp;omega) (fun g hg'=>((hrow.out (.cells #[] 0)).lt g hg').1));have HE:Hid (acc++[wO b.cols SEL lrow]=(CL.take (q+1)).map (wO b.cols SEL)):=by unfold Hid;rw[HPr.out,hacc.out]
       clear hown9 hg9 px;go_wp2_with fail;go_roundw;case rel=>exact⟨q+1,acc++[wO b.cols SEL lrow],by omega,by go_num,HE.out,by unfold Hid;rw[List.length_append,haql];rfl,HN9.out,HB9.out⟩
       case measure=>simp[intOf];omega
  · obtain rfl:q=K:=by omega
    have HEnd:Hid (acc=wP b d rs):=by unfold Hid;rw[HMD.out,hacc.out,List.take_of_length_le (by rw[←HKK.out];exact Nat.le_refl _)]
    have HRE:=zh ((hRI.out).base (show w.heap.size≤W3.heap.size by have h1:=HB3.out.size;omega));have HBE:=zh (HB3w.out.later HB4.out);go_wp2_with fail;go_ret;exact⟨_,rfl,by rw[←HEnd.out];exact HRE.out,HBE.out⟩
end Go.Proofs.YtfpcjhajjejpdaaGreatDoor
namespace Go.Proofs.YtfpcjhajjejpdaaGreatDoor
open Go.RowKit
set_option linter.unusedVariables false
set_option maxRecDepth 100000 in
theorem zHo (A:Option Addr) (n c:Nat) (b0 b1 b2 b3 c0 c1 c2 c3 c4 c5:Value) (fs:List NodeD) (b:TableD) (d:QueryD) (w:World) (htab:uX w) (ht:Nodes w w.heap.size A n fs) (hb:TableR w w.heap.size b0 b1 b2 b3 b) (h:QueryR w w.heap.size c0 c1 c2 c3 c4 c5 d) (hts:vC fs) (hbs:b.small) (hs:d.small) :
 Calls Tryz.prog 9 #[.agg #[.slice A n c],.agg #[b0,b1,b2,b3],.agg #[c0,c1,c2,c3,c4,c5]] w (yS (zHJ fs b d) w):=by
 have HK1:=zh (fun W (hW:Below w.heap.size w W)=>zCM A n c fs W (ht.later hW) (vF htab hW) hts);have HK2:=zh (fun W (hW:Below w.heap.size w W)=>zAW b0 b1 b2 b3 c0 c1 c2 c3 c4 c5 b d W (hb.later hW) (h.later hW) hbs hs);have HK3:Hid (uA fs=true→xK b d=true→∀W (hW:Below w.heap.size w W),Calls Tryz.prog 45 #[.agg #[.slice A n c],.agg #[b0,b1,b2,b3]] W (yS (zF0 b.cols (vA b.glob fs)) W)):=fun h1 h2 W hW=>by obtain⟨⟨f1,f2⟩,_⟩:=zP0 h2;exact zEJ A n c b0 b1 b2 b3 fs b W (ht.later hW) (hb.later hW) hts h1 f1 f2
 have HK4:Hid (xK b d=true→(zF0 b.cols (vA b.glob fs)).1=0→∀W (hW:Below w.heap.size w W) v,RowsI W w.heap.size v (zF0 b.cols (vA b.glob fs)).2→∃A4 n4 cap4,v=.slice A4 n4 cap4∧Calls Tryz.prog 46 #[.agg #[b0,b1,b2,b3],.agg #[c0,c1,c2,c3,c4,c5],.slice A4 n4 cap4] W (zCj (wP b d (zF0 b.cols (vA b.glob fs)).2) W)):=fun h2 h3 W hW v hv=>by obtain⟨⟨f1,f2⟩,f3,f4,f4',f5,f6⟩:=zP0 h2;obtain⟨g1,g2⟩:=zBn f2 h3;obtain⟨A4,cap4,rfl,_,hrd⟩:=xL hv;exact⟨A4,_,cap4,rfl,zEP A4 _ cap4 b0 b1 b2 b3 c0 c1 c2 c3 c4 c5 b d _ W (vF htab hW) (hb.later hW) (h.later hW) hrd hbs hs (fun r hr=>(g2 r hr).1) g1 f3 f4 f4' f5 f6 (fun r hr=>(g2 r hr).2)⟩
 have HR:Hid (zHJ fs b d=if (uA fs&&xK b d)=true then (if (zF0 b.cols (vA b.glob fs)).1=0 then (0,wP b d (zF0 b.cols (vA b.glob fs)).2) else ((zF0 b.cols (vA b.glob fs)).1,[])) else (1,[])):=rfl;generalize uA fs=xt at *;generalize xK b d=xf at *;obtain⟨rfl,rfl,⟨A2,n2,p2,rfl,s2,k2⟩,⟨A3,n3,p3,rfl,s3,k3⟩⟩:=hb;obtain⟨rfl,⟨B1,m1,q1,rfl,t1,l1⟩,⟨B2,m2,q2,rfl,t2,l2⟩,rfl,rfl,rfl⟩:=h;clear s2 s3 t1 t2 ht hts hbs hs htab;generalize zHJ fs b d=R at *;generalize hrt:zF0 b.cols (vA b.glob fs)=rt at *;clear hrt;generalize hmd:wP b d rt.2=md at *;clear hmd;generalize b.name=nm at *;generalize b.glob=gl at *;generalize d.table=tb at *;generalize d.order=od at *;generalize d.desc=ds at *;generalize d.limit=lm at *;have HB0:=zh (yG w (.cells #[.slice A n c] 26) (.cells #[.string nm,.string gl,.slice A2 n2 p2,.slice A3 n3 p3] 29) (.cells #[.string tb,.slice B1 m1 q1,.slice B2 m2 q2,.string od,.bool ds,.int .i64 lm] 32));have HX0:=zh (zK0 w (.cells #[.slice A n c] 26) (.cells #[.string nm,.string gl,.slice A2 n2 p2,.slice A3 n3 p3] 29) (.cells #[.string tb,.slice B1 m1 q1,.slice B2 m2 q2,.string od,.bool ds,.int .i64 lm] 32));have HX1:=zh (vG w (.cells #[.slice A n c] 26) (.cells #[.string nm,.string gl,.slice A2 n2 p2,.slice A3 n3 p3] 29) (.cells #[.string tb,.slice B1 m1 q1,.slice B2 m2 q2,.string od,.bool ds,.int .i64 lm] 32));have HX2:=zh (zG0 w (.cells #[.slice A n c] 26) (.cells #[.string nm,.string gl,.slice A2 n2 p2,.slice A3 n3 p3] 29) (.cells #[.string tb,.slice B1 m1 q1,.slice B2 m2 q2,.string od,.bool ds,.int .i64 lm] 32));go_enter Tryz.func9,Tryz.ntmps9;go_wp2_with fail;refine(HK1.out _ HB0.out).mono ?_;rintro e w1 ⟨rfl,hb1⟩;have HB1:=zh (HB0.out.later hb1);have HY0:=zh (Blk.later HX0.out hb1 (by first | (simp;done) | (simp;omega)));have HY1:=zh (Blk.later HX1.out hb1 (by first | (simp;done) | (simp;omega)));have HY2:=zh (Blk.later HX2.out hb1 (by first | (simp;done) | (simp;omega)));clear hb1 HX0 HX1 HX2;cases xt
 · have HE:Hid (R=(1,[])):=by unfold Hid;rw[HR.out];rfl
   go_wp2_with fail;refine bodyPost_ret (v:=.tuple #[.slice none 0 0,.int .i64 _]) (by simp[results,Tryz.results9,go_sem];try first | exact rfl | exact⟨rfl,rfl⟩) rfl ?_;exact⟨_,by rw[HE.out],by rw[HE.out];exact⟨[],Own.OwnL.nil _ _ _⟩,HB1.out⟩
 have p0:=HY0.out.cell;have p1:=HY1.out.cell;have p2':=HY2.out.cell;have z2:=HY2.out.lt;go_wp2_with fail;refine(HK2.out _ HB1.out).mono ?_;rintro e w2 ⟨rfl,hb2⟩;have HB2:=zh (HB1.out.later hb2);have HZ0:=zh (HY0.out.later hb2 HY0.out.lt);have HZ1:=zh (HY1.out.later hb2 HY1.out.lt);have HZ2:=zh (HY2.out.later hb2 HY2.out.lt);clear hb2 p0 p1 p2' z2 HY0 HY1 HY2;cases xf
 · have HE:Hid (R=(1,[])):=by unfold Hid;rw[HR.out];rfl
   go_wp2_with fail;refine bodyPost_ret (v:=.tuple #[.slice none 0 0,.int .i64 _]) (by simp[results,Tryz.results9,go_sem];try first | exact rfl | exact⟨rfl,rfl⟩) rfl ?_;exact⟨_,by rw[HE.out],by rw[HE.out];exact⟨[],Own.OwnL.nil _ _ _⟩,HB2.out⟩
 have hRS:R=if rt.1=0 then (0,md) else (rt.1,[]):=by rw[HR.out];rfl
 have HRS:=zh hRS;have HK3':=zh (HK3.out (by first | rfl | trivial) (by first | rfl | trivial));have HK4':=zh (HK4.out (by first | rfl | trivial));clear hRS HR HK3 HK4;have p0:=HZ0.out.cell;have p1:=HZ1.out.cell;have p2':=HZ2.out.cell;go_wp2_with fail;refine(HK3'.out _ HB2.out).mono ?_;rintro e w3 ⟨v3,rfl,ho3,hb3⟩;have HB3:=zh (HB2.out.later hb3);have HO3:=zh (ho3.base HB2.out.size);have HW1:=zh (HZ1.out.later hb3 HZ1.out.lt);have HW2:=zh (HZ2.out.later hb3 HZ2.out.lt);clear ho3 hb3 p0 p1 p2' HZ0 HZ1 HZ2 HK3' HK1 HK2;have p1:=HW1.out.cell;have p2':=HW2.out.cell;obtain⟨rc,rs⟩:=rt;by_cases h0:rc=0
 · have HE:Hid (R=(0,md)):=by unfold Hid;rw[HRS.out,if_pos h0]
   obtain⟨A4,n4,cap4,rfl,hk4⟩:=HK4'.out h0 _ HB3.out _ HO3.out;have HM:=zh hk4;clear hk4 HK4' HRS HO3;subst h0;go_wp2_with fail;refine HM.out.mono ?_;rintro e w5 ⟨v5,rfl,ho5,hb5⟩;have HO5:=zh (ho5.base HB3.out.size);have HB5:=zh (HB3.out.later hb5);obtain⟨A5,cap5,rfl,_⟩:=xL ho5;clear ho5 hb5 p1 p2' HW1 HW2;go_wp2_with fail;refine bodyPost_ret (v:=.tuple #[.slice A5 _ cap5,.int .i64 _]) (by simp[results,Tryz.results9,go_sem];try exact⟨rfl,rfl⟩) rfl ?_;exact⟨_,by rw[HE.out],by rw[HE.out];exact HO5.out,HB5.out⟩
 · have HE:Hid (R=(rc,[])):=by unfold Hid;rw[HRS.out,if_neg h0]
   have i1:(rc==0)=false:=by simp[h0]
   have i2:(rc != 0)=true:=by simp[h0]
   obtain⟨A4,cap4,rfl,_⟩:=xL HO3.out;clear HK4' HRS HO3 p1 p2' HW1 HW2;go_wp2_with fail;refine bodyPost_ret (v:=.tuple #[.slice none 0 0,.int .i64 _]) (by simp[results,Tryz.results9,go_sem];try first | exact rfl | exact⟨rfl,rfl⟩) rfl ?_;exact⟨_,by rw[HE.out],by rw[HE.out];exact⟨[],Own.OwnL.nil _ _ _⟩,HB3.out⟩
end Go.Proofs.YtfpcjhajjejpdaaGreatDoor
