import Derived.Test.YtgmaamnofhmecaaGreatDoorV38
import Derived.Test.YtgmaamnofhmecaaGreatDoorV35
import Derived.Maps.OwnOps
import Derived.Maps.OwnSet
import Derived.Maps.Views
import Derived.StringKeys
open Go.Lib renaming hid → zh
namespace Go.Proofs.YtgmaamnofhmecaaGreatDoor
open Go.RowKit Go.Maps Go.WideMaps
set_option linter.unusedVariables false
theorem zFX {P:Program} {w:World} {k t e:TypeId} {b n:Nat} {D:DataW Unit} (h:w.ownsMap P k (plainElem P e) b n D) (K:Keyed P k) (ht:P.underlying t=some (.map k e)) (he:P.underlying e=some .bool) (hz:(zeroValue e).run P w=.ok (.bool false) w)
 {key:Value} {kl:Lit} (hkey:keyOf P k key=some kl) {x:Bool} (hat:D.atKey kl (.lit (.bool false))=.lit (.bool x)):(Instr.lookup t (.map (some b)) key false).run P w=.ok (.bool x) w:=by
 obtain⟨v,ps,hrun,hv⟩:=h.lookup K ht hz (plainElem_bool he false) hkey;rw[hat]at hv;unfold plainElem at hv;rw[he]at hv;cases v <;> simp at hv;rw[hrun,hv.1]
theorem zLT:Keyed Tryz.prog 9:=string_keyed Tryz.underlying9
theorem zLC (w:World):(zeroValue 4).run Tryz.prog w=.ok (.bool false) w:=by kernel_rfl
theorem zBI {w w':World} {k e:TypeId} {b n:Nat} {D:DataW Unit} (h:w.ownsMap Tryz.prog k (plainElem Tryz.prog e) b n D) (hb:Below w.heap.size w w'):w'.ownsMap Tryz.prog k (plainElem Tryz.prog e) b n D:=by
 have hlt:=h.lt;obtain⟨es,clock,h1,h2⟩:=h;exact⟨es,clock,(hb.block b hlt).trans h1,h2⟩
def zEo (x:ByteArray):Lit:=.string x.data.toList
theorem zGI {x y:ByteArray} (h:zEo x=zEo y):x=y:=by
 unfold zEo at h;injection h with h;have h3:x.data=y.data:=by have:=congrArg List.toArray h;simpa using this
 cases x;cases y;exact congrArg ByteArray.mk h3
def zKb (D:DataW Unit) (L:List ByteArray):Prop:=(IsMap D∧Tidy D)∧((∀x,D.atKey (zEo x) (.lit (.bool false))=.lit (.bool (zCy L x)))∧(∀x,Maps.has D (zEo x)=zCy L x))∧Maps.size D=dc L.reverse
theorem zFz (L:List ByteArray) (x y:ByteArray):zCy (L++[x]) y=(zCy L y||decide (x=y)):=by
 unfold zCy;rw[List.any_append];simp
theorem zKI (L:List ByteArray) (x:ByteArray):zCy L.reverse x=zCy L x:=by
 rw[Bool.eq_iff_iff,isIn_iff,isIn_iff,List.mem_reverse]
theorem zKs {D:DataW Unit} {L:List ByteArray} (h:zKb D L) (x:ByteArray):zKb (D.put (zEo x) (.lit (.bool true))) (L++[x]):=by
 obtain⟨⟨h1,h1'⟩,⟨h2,h3⟩,h4⟩:=h;refine⟨⟨h1.put _ _,h1'.put (show WideAt.IsKeyLit (zEo x) from trivial) _⟩,⟨fun y=>?_,fun y=>?_⟩,?_⟩
 · rw[zFz];by_cases e:y=x
   · subst e;rw[atKey_put_same h1 (show WideAt.IsKeyLit (zEo y) from trivial)];simp
   · rw[atKey_put_other (fun he=>e (zGI he)),h2 y,decide_eq_false (fun he=>e he.symm),Bool.or_false]
 · rw[zFz];by_cases e:y=x
   · subst e;rw[has_put_same h1 (show WideAt.IsKeyLit (zEo y) from trivial)];simp
   · rw[has_put_other (fun he=>e (zGI he)),h3 y,decide_eq_false (fun he=>e he.symm),Bool.or_false]
 · rw[size_put h1',h3 x,h4,List.reverse_append];show _=dc L.reverse+if zCy L.reverse x=true then 0 else 1
   rw[zKI];split <;> omega
theorem zKt:zKb (.map []) []:=⟨⟨isMap_empty,tidy_empty⟩,⟨fun x=>rfl,fun x=>rfl⟩,rfl⟩
theorem zEn {w:World} {k e:TypeId} {b n:Nat} {D:DataW Unit} (h:w.ownsMap Tryz.prog k (plainElem Tryz.prog e) b n D) (p:Addr) (hp:p.block=b):w.cell? p=none:=by
 obtain⟨es,clock,h1,_⟩:=h;subst hp;simp[World.cell?,h1]
theorem zKO {w w':World} {k e:TypeId} {b n n':Nat} {D D':DataW Unit} (h:w.ownsMap Tryz.prog k (plainElem Tryz.prog e) b n D) (h':w'.ownsMap Tryz.prog k (plainElem Tryz.prog e) b n' D') (hc:Own.Chg (fun g=>g=b) w w') (p:Addr) (hp:p.block<w.heap.size):w'.cell? p=w.cell? p:=by
 by_cases e:p.block=b
 · rw[zEn h p e,zEn h' p e]
 · exact World.cell?_of_block (hc.block p.block hp e)
set_option maxRecDepth 100000 in
set_option maxHeartbeats 16000000 in
theorem zP0 (A:Option Addr) (n c:Nat) (b0 b1 b2 b3:Value) (fs:List NodeD) (b:TableD) (w:World) (htab:vV w) (ht:Nodes w w.heap.size A n fs) (hb:TableR w w.heap.size b0 b1 b2 b3 b) (hts:wB fs) (hbs:b.small) (hi:xH fs b=true) :
 Calls Tryz.prog 17 #[.agg #[.slice A n c],.agg #[b0,b1,b2,b3]] w fun e w'=>e=.returned (.bool true)∧Below w.heap.size w w':=by
 obtain⟨f1,f2,f3,f4,f5,f6,f7⟩:=zKH hi;have HK1:=zh (fun W (hW:Below w.heap.size w W)=>zER A n c b0 b1 b2 b3 fs b W (zH0 htab hW) (ht.later hW) (hb.later hW) hts hbs)
 have HKX:Hid (∀RA rcap W (hW:Below w.heap.size w W),RowsRd W W.heap.size RA (wD fs b).2.length (wD fs b).2→Calls Tryz.prog 68 #[.agg #[b0,b1,b2,b3],.slice RA (wD fs b).2.length rcap] W (xN (zBe fs b) W)):=fun RA rcap W hW h4 =>
  zDt b0 b1 b2 b3 RA rcap b (wD fs b).2 W (hb.later hW) h4 hbs f1 f3 f4
 have HTL:Hid ((zBe fs b).length≤1000):=by obtain⟨g1,g2,g3,g4,g5⟩:=vA f1;have:=zAA (yG 1 b) 5 (fun q=>by have:=zCB b q;omega) (wD fs b).2;unfold Hid zBe;omega
 have HKK:Hid (∀nm SA sn sc ss,wC nm ss=true→(∀s∈ss,xR s)→∀W (hW:Below w.heap.size w W),Strs W W.heap.size SA sn ss→Calls Tryz.prog 69 #[.string nm,.slice SA sn sc] W fun e w'=>e=.returned (.string (zAS nm ss))∧Below W.heap.size W w'):=fun nm SA sn sc ss h1 h2 W hW h3=>zKe nm SA sn sc ss W h3 h2 h1 (zH0 htab hW)
 have HKS:Hid (∀nm ss,wC nm ss=true→(zAS nm ss).size≤200):=fun nm ss h=>by
  unfold wC yK xC at h;simp only[Bool.and_eq_true,decide_eq_true_eq,List.all_eq_true]at h;obtain⟨⟨h1,_⟩,h2,h3⟩:=h
  have h4:=zDg ss (fun s hs=>by
   have:=h3 s hs;unfold xS at this;simp only[Bool.and_eq_true,decide_eq_true_eq]at this
   exact this.2)
  rw[←zIZ,ByteArray.size_append,ByteArray.size_append];have e1:(⟨(ss.flatMap uQ).toArray⟩:ByteArray).size=(ss.flatMap uQ).length:=by show(ss.flatMap uQ).toArray.size=_;rw[List.size_toArray]
  have e2:(⟨#[1]⟩:ByteArray).size=1:=rfl;omega
 have HF5:=zh f5;have HF6:=zh f6;have HF7:=zh f7;have HNS:=zh ht;have HNL:=zh ht.1;have hn:n≤1048576:=by rw[←ht.1];exact hts.1
 obtain⟨rfl,rfl,⟨A2,n2,p2,rfl,s2,k2⟩,⟨A3,n3,p3,rfl,s3,k3⟩⟩:=hb;clear s2 s3 ht hts hbs htab f1 f3 f4 f5 f6 f7;generalize zBe fs b=E at *;generalize wD fs b=rt at *;obtain⟨rc,rs⟩:=rt;dsimp only at f2;subst f2;generalize b.name=nm at *;generalize b.glob=gl at *;obtain⟨WB,hWB⟩:∃WB,WB=(w.alloc (.cells #[.slice A n c] 26)).alloc (.cells #[.string nm,.string gl,.slice A2 n2 p2,.slice A3 n3 p3] 29):=⟨_,rfl⟩;have HX0:Hid (Blk WB w.heap.size 26 #[.slice A n c]):=by subst hWB;exact uC _ _ _
 have HX1:Hid (Blk WB (w.heap.size+1) 29 #[.string nm,.string gl,.slice A2 n2 p2,.slice A3 n3 p3]):=by subst hWB;exact xB _ _ _
 have HBB:Hid (Below w.heap.size w WB):=by subst hWB;exact(Below.new _ _).later (Below.new _ _)
 have HS1:Hid (∀W',Below WB.heap.size WB W'→(W'.cell? ⟨w.heap.size,0,none⟩=some (.slice A n c)∧W'.cell? ⟨w.heap.size+1,0,none⟩=some (.string nm)∧W'.cell? ⟨w.heap.size+1,1,none⟩=some (.string gl)∧W'.cell? ⟨w.heap.size+1,2,none⟩=some (.slice A2 n2 p2)∧W'.cell? ⟨w.heap.size+1,3,none⟩=some (.slice A3 n3 p3))):=fun W' hW=>⟨(HX0.out.later hW HX0.out.lt).at 0 rfl,(HX1.out.later hW HX1.out.lt).at 0 rfl,(HX1.out.later hW HX1.out.lt).at 1 rfl,(HX1.out.later hW HX1.out.lt).at 2 rfl,(HX1.out.later hW HX1.out.lt).at 3 rfl⟩;have hwB:=HBB.out.size;have hwB1:=HX1.out.lt;obtain⟨x0,x1,x2,x3,x4⟩:=HS1.out _ (Below.refl _ _);have hmm:=@run_makeMap Tryz.prog;go_enter Tryz.func17,Tryz.ntmps17;go_wp2_with fail;rw[←hWB];clear hWB;(try go_wp2_with fail);refine(HK1.out _ HBB.out).mono ?_;rintro e w3 ⟨v3,rfl,hr3,hb3⟩;have HB3:=zh hb3;have HB3w:=zh (HBB.out.later HB3.out);obtain⟨RA,rcap,rfl,hrcap,hrd⟩:=zBl hr3;have HRD:=zh hrd;have hw3:=HB3.out.size;clear hr3 hb3 hrd x0 x1 x2 x3 x4 HK1;obtain⟨WM,hWM⟩:∃WM,WM=w3.alloc (.map #[] 0):=⟨_,rfl⟩;have HBM:Hid (Below w3.heap.size w3 WM):=by subst hWM;exact Below.new _ _
 have HMM:Hid (WM.ownsMap Tryz.prog 9 (plainElem Tryz.prog 4) w3.heap.size 0 (.map []:DataW Unit)):=by subst hWM;exact World.ownsMap_made (H:=Unit) w3 Tryz.prog 9 (plainElem Tryz.prog 4)
 have HBMw:=zh (HB3w.out.later HBM.out);have hwm:w3.heap.size<WM.heap.size:=HMM.out.lt;obtain⟨x0,x1,x2,x3,x4⟩:=HS1.out _ (HB3.out.later HBM.out);obtain⟨z0,z1,z2,z3,z4⟩:=HS1.out _ HB3.out;have hz1:w.heap.size+1<w3.heap.size:=by omega
 have hz0:w.heap.size<w3.heap.size:=by omega
 go_wp2_with fail;rw[←hWM];clear hWM hmm z0 z1 z2 z3 z4;(try go_wp2_with fail);refine(HKX.out RA rcap _ HBMw.out (HRD.out.later HBM.out)).mono ?_;rintro e w4 ⟨v4,rfl,hc4,hb4⟩;obtain⟨EA,ecap,rfl,hecap,hrd4⟩:=hc4.reads;have HB4:=zh hb4;have HB4w:=zh (HBMw.out.later hb4);have HM4:=zh (zBI HMM.out hb4);have HRC:=zh hrd4;have hw4:=hb4.size;have hEL:=HTL.out;clear hb4 hc4 hrd4 x0 x1 x2 x3 x4 HKX HTL;generalize hm:E.length=m at *;have HM:=zh hm;clear hm;go_wp2_with fail;have hwz:w.heap.size≤w3.heap.size:=by omega
 go_loopw [26] (fun i wr=>∃(k:Nat) (D:DataW Unit),k≤m∧i=.int .i64 k∧Own.Chg (fun g=>g=w3.heap.size) w4 wr∧Hid (wr.ownsMap Tryz.prog 9 (plainElem Tryz.prog 4) w3.heap.size k D)∧Hid (zKb D ((E.take k).map zAg))) (fun i _=>m-(intOf i).toNat);case atStart=>exact⟨0,.map [],Nat.zero_le _,rfl,Own.Chg.refl _ _,HM4.out,zKt⟩
 case round =>
  obtain⟨k,D,hk,rfl,hch,HMr,HSr⟩:=hrel;have HCH:=zh hch;have hwr:=hch.size;have HBw:Hid (Below w.heap.size w wr):=Own.Chg.below HB4w.out hch (fun g hg=>by omega) (Nat.le_refl _);have HKP:Hid (∀p:Addr,p.block<w4.heap.size→wr.cell? p=w4.cell? p):=fun p hp=>zKO HM4.out HMr.out HCH.out p hp;have hlm:=HMr.out.lt;clear hch;by_cases hlt:k<m
  · obtain⟨eb,eo,rfl,heb,hec⟩:=HRC.out.2 (by omega);obtain⟨c0,c1,c2,c3,k0,k1,k2,k3,hcr⟩:=hec k hlt;have kk0:=(HKP.out ⟨eb,eo+k*4,none⟩ heb).trans k0;have kk1:=(HKP.out ⟨eb,eo+k*4+1,none⟩ heb).trans k1;have kk2:=(HKP.out ⟨eb,eo+k*4+2,none⟩ heb).trans k2;have kk3:=(HKP.out ⟨eb,eo+k*4+3,none⟩ heb).trans k3;have hkl:k<E.length:=by rw[HM.out];exact hlt
    have HSTP:Hid ((E.take (k+1)).map zAg=(E.take k).map zAg++[zAg (E.getD k default)]):=by unfold Hid;rw[List.take_succ_eq_append_getElem hkl,List.map_append,List.getD_eq_getElem?_getD,List.getElem?_eq_getElem hkl];rfl
    obtain⟨g1,g2⟩:=HF5.out _ (xD E k hkl);have HG1:=zh g1;have HG2:=zh g2;have HCK:Hid (zAg (E.getD k default)=zAS (E.getD k default).name (E.getD k default).subs):=rfl;have hebz:eb<wr.heap.size:=by omega
    clear hec k0 k1 k2 k3 hkl g1 g2;generalize E.getD k default=x at *;obtain⟨rfl,rfl,⟨SA,sn,sc,rfl,hss,hsc⟩,rfl⟩:=hcr;have hssr:Strs wr wr.heap.size SA sn x.subs:=(hss.keep HKP.out).more hwr;have HKc:=zh (HKK.out x.name SA sn sc x.subs HG1.out HG2.out);have HSS:Hid (∀W,Below wr.heap.size wr W→Strs W W.heap.size SA sn x.subs):=fun W hW=>hssr.later hW;have HSZ:=zh (HKS.out x.name x.subs HG1.out);have hki:(k:Int)<(m:Int):=by omega
    have hki4:((k:Int)*4)=((k*4:Nat):Int):=by omega
    clear hss hssr;go_wp2_with fail;refine(HKc.out _ (HBw.out.later (Below.new _ _)) (HSS.out _ (Below.new _ _))).mono ?_;rintro e w5 ⟨rfl,hb5⟩;have HB5:=zh ((Below.new wr (.cells #[.int .i64 x.kind,.string x.name,.slice SA sn sc,.string x.val] 88)).later hb5);have HM5:=zh (zBI HMr.out HB5.out);have HKey:Hid (keyOf Tryz.prog 9 (.string (zAS x.name x.subs))=some (zEo (zAS x.name x.subs))):=keyOf_string_mk Tryz.underlying9 (by have:=HSZ.out;unfold maxLen;omega);clear hb5;generalize zAS x.name x.subs=kx at *;go_wp2_with (at_mapUpdate;refine wpList_mapUpdate_own _ rfl _ _ _ 106 rfl 9 4 zLT Tryz.underlying106 _ w3.heap.size k _ rfl HM5.out (by unfold maxLen;omega) _ _ _ rfl rfl HKey.out _ [] (plainElem_bool Tryz.underlying4 true) ?_);intro w6 hown6 hg6;have HM6:=zh hown6;have HCH6:Hid (Own.Chg (fun g=>g=w3.heap.size) w4 w6):=(HCH.out.trans (Own.Chg.of_below HB5.out)).trans (Own.Chg.of_grown hg6 (fun g hg=>by injection hg with hg;exact hg.symm));have HS6:Hid (zKb (D.put (zEo kx) (.lit (.bool true))) ((E.take (k+1)).map zAg)):=by unfold Hid;rw[HSTP.out,HCK.out];exact zKs HSr.out _
    clear hown6 hg6;go_wp2_with fail;go_roundw;case rel=>exact⟨k+1,_,by omega,by go_num,HCH6.out,HM6.out,HS6.out⟩
    case measure=>simp[intOf];omega
  · have hkm:m=k:=by omega
    subst hkm;have HMr':=HMr.out;have HSE:Hid (zKb D (E.map zAg)):=by have h:=HSr.out;rw[List.take_of_length_le (l:=E) (by rw[HM.out];exact Nat.le_refl _)]at h;exact h
    have HB1r:Hid (Below WB.heap.size WB wr):=Own.Chg.below (HB3.out.later (HBM.out.later HB4.out)) HCH.out (fun g hg=>by omega) (Nat.le_refl _);obtain⟨x0,x1,x2,x3,x4⟩:=HS1.out _ HB1r.out;have hw4r:w.heap.size+1<wr.heap.size:=by omega
    have HBw7:=HBw;have hzn:∀q:Nat,q<n→True:=fun _ _=>trivial;obtain⟨W7,rfl⟩:∃W7,W7=wr:=⟨wr,rfl⟩;have HNB:Hid (∀k,k≤n→((fs.take k).filter (xE gl)).length≤1048576):=fun k hk=>by have h1:=List.length_filter_le (xE gl) (fs.take k);rw[List.length_take]at h1;omega
    clear HKP HMr HSr HCH HM4 hecap HRC hlm HRD hzn;have HM7:=zh HMr';go_wp2_with fail;go_loopw [10,40] (fun v i wr=>∃q:Nat,q≤n∧i=.int .i64 q∧v=.int .i64 (((fs.take q).filter (xE gl)).length:Nat)∧Below W7.heap.size W7 wr) (fun _ i _=>n-(intOf i).toNat);case atStart=>exact⟨0,Nat.zero_le _,rfl,rfl,Below.refl _ _⟩
    case round =>
     obtain⟨q,hq,rfl,rfl,hbr⟩:=hrel;have HB8:=zh hbr;have HB8w:=zh (HBw7.out.later hbr);have HM8:=zh (zBI HM7.out hbr);have hw8:=hbr.size;obtain⟨y0,y1,y2,y3,y4⟩:=HS1.out _ (HB1r.out.later hbr);clear hbr x0 x1 x2 x3 x4;by_cases hlq:q<n
     · have hqi:(q:Int)<(n:Int):=by omega
       obtain⟨bb,o,rfl,hbB,hc⟩:=(HNS.out.later HB8w.out).2 (by omega);obtain⟨c0,c1,c2,k0,k1,k2,hr⟩:=hc q hlq;have hql:q<fs.length:=by rw[HNL.out];exact hlq
       have HST:=zh (xW (xE gl) fs q hql);have HLE:=zh (HNB.out q hq);have HFD:=zh (HF6.out _ (xD fs q hql));have HID:Hid (xE gl (fs.getD q default)=(decide ((fs.getD q default).name=gl)&&(decide (0<(fs.getD q default).subs.length)&&decide ((fs.getD q default).subs.getD 0 ByteArray.empty=iS)))):=rfl;have HNK:Hid (zDO (fs.getD q default)=zAS (fs.getD q default).name (fs.getD q default).subs):=rfl;clear hc hql;generalize fs.getD q default=d at *;generalize hcn:((fs.take q).filter (xE gl)).length=cn at *;have HCN:=zh hcn;clear hcn;have hcn9:=HLE.out;obtain⟨rfl,⟨A1,n1,cap1,rfl,hs1,hcap1⟩,rfl⟩:=hr;have HS8:=zh hs1;have hsl:d.subs.length=n1:=hs1.1;rw[hsl]at HID;clear hsl;have HBN:=zh (HB8.out.later (Below.new wr (.cells #[.string d.name,.slice A1 n1 cap1,.string d.val] 102)));have hwz0:w.heap.size<wr.heap.size:=by omega
       have hwz1:w.heap.size+1<wr.heap.size:=by omega
       have hbz:bb<wr.heap.size:=hbB;have SKIP:xE gl d=false→((fs.take (q+1)).filter (xE gl)).length=cn:=fun h=>by rw[HST.out,h,if_neg (by simp)];exact HCN.out
       have HIT:xE gl d=true→((fs.take (q+1)).filter (xE gl)).length=cn+1:=fun h=>by rw[HST.out,h,if_pos rfl,List.length_append];show _+1=_;rw[HCN.out]
       have HSKIP:=zh SKIP;have HHIT:=zh HIT;clear SKIP HIT;generalize hix:xE gl d=ix at *;clear hix;generalize hdn:d.name=dn at *;generalize hdv:d.val=dv at *;clear hdn hdv;by_cases hnm:dn=gl
       case neg =>
        have HE:Hid (ix=false):=by unfold Hid;rw[HID.out,decide_eq_false hnm];rfl
        have hb1:=vE hnm;have hb2:=wY hnm;go_wp2_with fail;go_roundw;case rel=>exact⟨q+1,by omega,by go_num,by rw[HSKIP.out HE.out],HBN.out⟩
        case measure=>simp[intOf];omega
       subst hnm;by_cases hl0:0<n1
       case neg =>
        have HE:Hid (ix=false):=by unfold Hid;rw[HID.out,decide_eq_false hl0];simp
        obtain rfl:n1=0:=by omega
        go_wp2_with fail;go_roundw;case rel=>exact⟨q+1,by omega,by go_num,by rw[HSKIP.out HE.out],HBN.out⟩
        case measure=>simp[intOf];omega
       have hl1:(0:Int)<(n1:Int):=by omega
       have hl2:¬((n1:Int)=0):=by omega
       have hl3:¬(n1=0):=by omega
       obtain⟨sb,so,rfl,hsb,hsc⟩:=HS8.out.2 hl0
       have q0:wr.cell? ⟨sb,so,none⟩=some (.string (d.subs.getD 0 ByteArray.empty)):=by
        have:=hsc 0 hl0
        rwa [Nat.add_zero]at this
       clear hsc;generalize ht0:d.subs.getD 0 ByteArray.empty=t0 at *;clear ht0;by_cases hs0:t0=⟨#[105]⟩
       case neg =>
        have HE:Hid (ix=false):=by unfold Hid;rw[HID.out,decide_eq_false (show ¬t0=iS from hs0)];simp
        have hb2:=wY hs0;have hb3:=zAa hs0;clear hs0;go_wp2_with fail;go_roundw;case rel=>exact⟨q+1,by omega,by go_num,by rw[HSKIP.out HE.out],HBN.out⟩
        case measure=>simp[intOf];omega
       subst hs0;have HE:Hid (ix=true):=by unfold Hid;rw[HID.out,decide_eq_true (rfl:dn=dn),decide_eq_true hl0,decide_eq_true (show(⟨#[105]⟩:ByteArray)=iS from rfl)];rfl
       obtain⟨e1,e2,e3,e4⟩:=HFD.out HE.out;subst e1;have HKn:=zh (HKK.out dn (some ⟨sb,so,none⟩) n1 cap1 d.subs e2 e3);have HSZ:=zh (HKS.out dn d.subs e2);have HIN:Hid (zCy (E.map zAg) (zAS dn d.subs)=true):=by unfold Hid;rw[←HNK.out];exact e4
       clear e2 e3 e4;go_wp2_with fail;refine(HKn.out _ (HB8w.out.later (Below.new _ _)) (HS8.out.later (Below.new _ _))).mono ?_;rintro e w9 ⟨rfl,hb9⟩;have HB9:=zh ((Below.new wr (.cells #[.string dn,.slice (some ⟨sb,so,none⟩) n1 cap1,.string ⟨#[]⟩] 102)).later hb9);have HM9:=zh (zBI HM8.out HB9.out);have HB9r:=zh (HB8.out.later HB9.out);have hrun:=zFX HM9.out zLT Tryz.underlying106 Tryz.underlying4 (zLC _) (keyOf_string_mk (k:=9) (s:=zAS dn d.subs) Tryz.underlying9 (by have:=HSZ.out;unfold maxLen;omega)) (HSE.out.2.1.1 (zAS dn d.subs));rw[HIN.out]at hrun;clear hb9;generalize zAS dn d.subs=kx at *;have hc1:wrap64 ((cn:Int)+1)=(cn:Int)+1:=by unfold wrap64;omega
       go_wp2_with fail;go_roundw;case rel=>exact⟨q+1,by omega,by go_num,by rw[HHIT.out HE.out];first | go_num | (rw[hc1];go_num),HB9r.out⟩
       case measure=>simp[intOf];omega
     · have hqn:q=n:=by omega
       have HCT:Hid ((((fs.take q).filter (xE gl)).length:Int)=(Maps.size D:Int)):=by unfold Hid;rw[List.take_of_length_le (l:=fs) (by rw[HNL.out];omega),HSE.out.2.2,HF7.out]
       generalize ((fs.take q).filter (xE gl)).length=cn at *;have hcs:((cn:Int)==(Maps.size D:Int))=true:=by rw[HCT.out];simp
       go_wp2_with (at_len;refine wpList_len_own _ rfl _ 106 rfl 9 4 Tryz.underlying106 _ w3.heap.size m D rfl HM8.out ?_);go_wp2_with fail;go_ret;exact⟨rfl,HB8w.out⟩
end Go.Proofs.YtgmaamnofhmecaaGreatDoor
