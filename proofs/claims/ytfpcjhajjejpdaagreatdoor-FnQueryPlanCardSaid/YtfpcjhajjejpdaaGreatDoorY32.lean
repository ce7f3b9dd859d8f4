import Derived.Test.YtfpcjhajjejpdaaGreatDoorY31
open Go.Lib renaming hid → zh
namespace Go.Proofs.YtfpcjhajjejpdaaGreatDoor
open Go.RowKit
set_option linter.unusedVariables false
def zEF (q:Nat) (j:Nat):Value:=#[Value.slice (some ⟨q+1,0,none⟩) 2 2,.slice (some ⟨q+1+1,0,none⟩) 2 2,.slice (some ⟨q+1+1+1,0,none⟩) 4 4,.slice (some ⟨q+1+1+1+1,0,none⟩) 1 1,.slice (some ⟨q+1+1+1+1+1,0,none⟩) 4 4].getD j (.slice none 0 0)
set_option maxRecDepth 100000 in
set_option maxHeartbeats 40000000 in
theorem zIg (p K:Nat) (b0 b1 b2 b3:Value) (b:TableD) (w:World) (h:SrcR w p K) (hb:TableR w w.heap.size b0 b1 b2 b3 b) (hbs:b.small) (hc6:b.cols.length≤6) (hg16:b.glob.size≤16) (hK:K≤34359738368) :
 Calls Tryz.prog 39 #[.pointer (some ⟨p,0,none⟩),.agg #[b0,b1,b2,b3]] w (zDr p (K+220) w):=by
 have hpw:=h.lt;have HTB:Hid (∀W,DrW p w W→TableR W W.heap.size b0 b1 b2 b3 b):=fun W hd=>by obtain⟨K',hd⟩:=hd;exact h.reads_table hb hd
 have HKD:=zh (fun W (hd:Drawn p K w W)=>zIf p K b0 b1 b2 b3 b W hd.src (HTB.out W (vD hd)) hbs hc6 (by omega));obtain⟨rfl,rfl,⟨A2,n2,p2,rfl,s2,k2⟩,⟨A3,n3,p3,rfl,s3,k3⟩⟩:=hb;clear s2 s3 hc6 hbs HTB;generalize hnm:b.name=nm at *;generalize hgl:b.glob=gl at *;clear hnm hgl;obtain⟨WB,hWB⟩:∃WB,WB=(w.alloc (.cells #[.string nm,.string gl,.slice A2 n2 p2,.slice A3 n3 p3] 29)).alloc (.cells #[.slice none 0 0] 26):=⟨_,rfl⟩;have HT0:Hid (Blk WB w.heap.size 29 #[.string nm,.string gl,.slice A2 n2 p2,.slice A3 n3 p3]):=by subst hWB;exact yC _ _ _
 have HR0:Hid (Blk WB (w.heap.size+1) 26 #[.slice none 0 0]):=by subst hWB;exact vB _ _ _
 have HD0:Hid (Drawn p K w WB):=by subst hWB;exact(Drawn.refl h).later ((Below.new _ _).later (Below.new _ _))
 have HK1:=zh (HKD.out WB HD0.out);have t0:=HT0.out.cell 0;have t1:=HT0.out.cell 1;have t2:=HT0.out.cell 2;have t3:=HT0.out.cell 3;simp at t0 t1 t2 t3;have hwb:=HR0.out.lt;clear h HKD;go_enter Tryz.func39,Tryz.ntmps39;go_wp2_with fail;rw[←hWB];clear hWB;first | (refine HK1.out.mono ?_) | (go_wp2_with fail;refine HK1.out.mono ?_)
 rintro e w1 ⟨v,fs,rfl,hn,htr,hd⟩;obtain⟨A,cap,rfl,hcap,_⟩:=hn.reads;have HN1:=zh (hn.base HD0.out.chg.size);have HTR:=zh htr;have HD1:=zh (HD0.out.trans hd);have HT1:=zh (Blk.drawn HT0.out hd (by omega));have HR1:=zh (Blk.drawn HR0.out hd (by omega));have hw1:w.heap.size+1<w1.heap.size:=Nat.lt_of_lt_of_le hwb hd.chg.size;clear hn htr hd HT0 HR0 HK1 HD0 hwb t0 t1 t2 t3;generalize hq:w1.heap.size=q at *;obtain⟨WX,hWX⟩:∃WX,WX=((((((w1.alloc (.cells #[.slice A fs.length cap] 26)).alloc (.cells #[.string ⟨#[114]⟩,.string ⟨#[49]⟩] 9)).alloc (.cells #[.string ⟨#[114]⟩,.string ⟨#[57]⟩] 9)).alloc (.cells #[.string ⟨#[105]⟩,.string ⟨#[110,97,109,101]⟩,.string ⟨#[98,111,98]⟩,.string ⟨#[49]⟩] 9)).alloc (.cells #[.string ⟨#[105]⟩] 9)).alloc (.cells #[.string ⟨#[105]⟩,.string ⟨#[98,101,100]⟩,.string ⟨#[51]⟩,.string ⟨#[97]⟩] 9)).alloc (.cells #[.slice (some ⟨q+1,0,none⟩) 2 2,.slice (some ⟨q+1+1,0,none⟩) 2 2,.slice (some ⟨q+1+1+1,0,none⟩) 4 4,.slice (some ⟨q+1+1+1+1,0,none⟩) 1 1,.slice (some ⟨q+1+1+1+1+1,0,none⟩) 4 4] 27):=⟨_,rfl⟩;have HBX:Hid (Below w1.heap.size w1 WX):=by subst hWX;exact((((((Below.new _ _).later (Below.new _ _)).later (Below.new _ _)).later (Below.new _ _)).later (Below.new _ _)).later (Below.new _ _)).later (Below.new _ _)
 have HS:Hid (TrS p (K+200) w q (w.heap.size+1) (.slice A fs.length cap) fs WX):=⟨HN1.out.later HBX.out,HTR.out,by
  subst hWX
  exact vR (vR (vR (vR (vR (vR (uZ hq)))))),HR1.out.later HBX.out HR1.out.lt,HD1.out.later HBX.out⟩
 have HT:=zh (HT1.out.later HBX.out HT1.out.lt);have HX:Hid (Blk WX (q+1+1+1+1+1+1) 27 #[.slice (some ⟨q+1,0,none⟩) 2 2,.slice (some ⟨q+1+1,0,none⟩) 2 2,.slice (some ⟨q+1+1+1,0,none⟩) 4 4,.slice (some ⟨q+1+1+1+1,0,none⟩) 1 1,.slice (some ⟨q+1+1+1+1+1,0,none⟩) 4 4]):=by subst hWX;exact uZ (by simp[hq])
 have HL:Hid (∀j,j<5→∃A m ss,zEF q j=.slice A m m∧Strs WX WX.heap.size A m ss∧ss.length≤4∧∀s∈ss,s.size≤16):=fun j hj=>by
  subst hWX
  match j,hj with
  | 0,_=>exact⟨_,2,[⟨#[114]⟩,⟨#[49]⟩],rfl,wM (wM (wM (wM (wM (zAs rfl (by simp[hq]) rfl))))),by decide,by decide⟩
  | 1,_=>exact⟨_,2,[⟨#[114]⟩,⟨#[57]⟩],rfl,wM (wM (wM (wM (zAs rfl (by simp[hq]) rfl)))),by decide,by decide⟩
  | 2,_=>exact⟨_,4,[⟨#[105]⟩,⟨#[110,97,109,101]⟩,⟨#[98,111,98]⟩,⟨#[49]⟩],rfl,wM (wM (wM (zAs rfl (by simp[hq]) rfl))),by decide,by decide⟩
  | 3,_=>exact⟨_,1,[⟨#[105]⟩],rfl,wM (wM (zAs rfl (by simp[hq]) rfl)),by decide,by decide⟩
  | 4,_=>exact⟨_,4,[⟨#[105]⟩,⟨#[98,101,100]⟩,⟨#[51]⟩,⟨#[97]⟩],rfl,wM (zAs rfl (by simp[hq]) rfl),by decide,by decide⟩
 have HFX:Hid (∀W,Blk W (q+1+1+1+1+1+1) 27 #[.slice (some ⟨q+1,0,none⟩) 2 2,.slice (some ⟨q+1+1,0,none⟩) 2 2,.slice (some ⟨q+1+1+1,0,none⟩) 4 4,.slice (some ⟨q+1+1+1+1,0,none⟩) 1 1,.slice (some ⟨q+1+1+1+1+1,0,none⟩) 4 4]→∀j,j<5→W.cell? ⟨q+1+1+1+1+1+1,j,none⟩=some (zEF q j)):=fun W hB j hj=>by
  refine(hB.cell j).trans ?_
  match j,hj with
  | 0,_=>rfl
  | 1,_=>rfl
  | 2,_=>rfl
  | 3,_=>rfl
  | 4,_=>rfl
 have HK2:=zh (wU p (K+200) 4 WX HS.out.draw.src (by omega) (by omega));have hqx:=HX.out.lt;clear HBX HN1 HTR HD1 HT1 HR1;go_wp2_with fail;rw[←hWX];clear hWX;have hpx:p<WX.heap.size:=HS.out.draw.lt;have hwx:=HS.out.draw.chg.size;have HQC:Hid (∀W,DrW p WX W→(W.cell? ⟨q,0,none⟩=some (.slice A fs.length cap)∧W.cell? ⟨w.heap.size,1,none⟩=some (.string gl)∧∀j,j<5→W.cell? ⟨q+1+1+1+1+1+1,j,none⟩=some (zEF q j))):=fun W hd=>by obtain⟨K',hd⟩:=hd;exact⟨((HS.out.drawn hd (by omega) (by omega)).box.cell 0).trans rfl,((Blk.drawn HT.out hd (by omega)).cell 1).trans rfl,HFX.out W (Blk.drawn HX.out hd (by omega))⟩
 have HLQ:Hid (∀W j,j<5→DrW p WX W→∃A m ss,zEF q j=.slice A m m∧Strs W W.heap.size A m ss∧ss.length≤4∧∀s∈ss,s.size≤16):=fun W j hj hd=>by obtain⟨K',hd⟩:=hd;obtain⟨A',m',ss,e,hs,hl,hz⟩:=HL.out j hj;exact⟨A',m',ss,e,HS.out.draw.src.strs hs hd,hl,hz⟩
 have HKP:Hid (∀W j val,j<5→DrW p WX W→val.size≤16→Calls Tryz.prog 95 #[.agg #[.slice A fs.length cap],.string gl,zEF q j,.string val] W (fun e w'=>∃v2 gs code,e=.returned (.tuple #[.agg #[v2],.int .i64 code])∧(code=0→uA gs=true)∧NodesO w' w.heap.size v2 gs∧Below W.heap.size W w')):=fun W j val hj hd hvl=>by obtain⟨A',m',ss,e,hs',hl,hz⟩:=HLQ.out W j hj hd;obtain⟨K',hd⟩:=hd;have hs:=HS.out.drawn hd (by omega) (by omega);obtain⟨A'',cap',e',hc',hN⟩:=hs.own.reads;injection e' with e1 _ e3;subst e1 e3;rw[e];have hm:=hs'.1;refine(zCi A fs.length cap fs gl A' m' m' ss val W hN hcap (wQ hs.tree) hs' (Nat.le_refl _) (zBV hg16 (by omega) hz hvl)).mono ?_;rintro e w' ⟨v2,rfl,hn,hb⟩;exact⟨v2,_,_,rfl,zBq,(hn.base hd.chg.size).base hwx,hb⟩
 have HKK:Hid (∀W j,j<5→DrW p WX W→Calls Tryz.prog 97 #[.agg #[.slice A fs.length cap],.string gl,zEF q j] W (fun e w'=>∃v2 gs,e=.returned (.agg #[v2])∧uA gs=true∧NodesO w' w.heap.size v2 gs∧Below W.heap.size W w')):=fun W j hj hd=>by obtain⟨A',m',ss,e,hs',hl,hz⟩:=HLQ.out W j hj hd;obtain⟨K',hd⟩:=hd;have hs:=HS.out.drawn hd (by omega) (by omega);obtain⟨A'',cap',e',hc',hN⟩:=hs.own.reads;injection e' with e1 _ e3;subst e1 e3;rw[e];have hm:=hs'.1;refine(zHu A fs.length cap fs gl A' m' m' ss W hN (wQ hs.tree) hs' (by omega) (by omega) (fun s h=>by have:=hz s h;omega)).mono ?_;rintro e w' ⟨v2,rfl,hn,hb⟩;exact⟨v2,_,rfl,zFS hs.tree,(hn.base hd.chg.size).base hwx,hb⟩
 clear HL HLQ;generalize zEF q=F at *;generalize hq6:q+1+1+1+1+1+1=q6 at *;have HK3:=zh (fun W (hd:Drawn p (K+200+2+4) WX W)=>wU p (K+200+2+4) 8 W hd.src (by omega) (by omega));have HK5:=zh (fun W (hd:Drawn p (K+200+2+4+2) WX W)=>xG p (K+200+2+4+2) 5 W hd.src (by omega) (by omega));have HKA:=zh (fun W (hd:Drawn p (K+200+2) WX W)=>xG p (K+200+2) 5 W hd.src (by omega) (by omega));have HKT:=zh (fun W g0 (hd:Drawn p (K+200+2+2) WX W) (h2:Strs W W.heap.size (some ⟨g0,0,none⟩) 4 [⟨#[]⟩,⟨#[112,94,113,94,114]⟩,⟨#[118]⟩,⟨#[112]⟩])=>zH0 p (K+200+2+2) (some ⟨g0,0,none⟩) 4 4 [⟨#[]⟩,⟨#[112,94,113,94,114]⟩,⟨#[118]⟩,⟨#[112]⟩] W hd.src (by omega) h2 (by omega) (by omega));refine HK2.out.mono ?_;rintro e w2 ⟨bb,rfl,hd2⟩;have HD:=zh hd2;clear hd2 HK2;have hw2:=HD.out.chg.size;cases bb
 · have HD9:=zh (HD.out.mono (show K+200+2≤K+200+2+4 by omega));go_wp2_with fail;refine(HK3.out _ HD9.out).mono ?_;rintro e w6 ⟨b8,rfl,hd6⟩;have HD6:=zh (HD9.out.trans hd6);have HS6:=zh (HS.out.drawn HD6.out (by omega) (by omega));clear hd6 HD9;obtain⟨s0,s1,s2⟩:=HQC.out w6 (vD HD6.out);have r0:=HS6.out.res.cell 0;have rf:=HS6.out.res.frozen 0;have rz:=HS6.out.res.lt;have sz:=HS6.out.box.lt;simp at r0;cases b8
   · go_wp2_with fail;refine bodyPost_ret (v:=.agg #[.slice A fs.length cap]) (by simp[results,Tryz.results39,go_sem,r0]) rfl ?_;exact⟨_,fs,rfl,HS6.out.own.setBlk HS6.out.res (by decide) (by decide),HS6.out.tree,(HS6.out.draw.set (show w.heap.size≤w.heap.size+1 by omega) hpw 0 _).mono (by omega)⟩
   · clear r0 rf rz;go_wp2_with fail
     go_region_held3 (fun w'=>w'.cell? ⟨q,0,none⟩=some (.slice A fs.length cap)∧w'.cell? ⟨w.heap.size,1,none⟩=some (.string gl)∧∀j,j<5→w'.cell? ⟨q6,j,none⟩=some (F j))
      (first | with_reducible exact kk8 | exact HQC.out _ (by(repeat (first | with_reducible exact vD HD.out | with_reducible exact vD HD3.out | with_reducible exact vD HD4.out | with_reducible exact vD HD5.out | with_reducible exact vD HD6.out | with_reducible exact vD HD7.out | with_reducible exact vD HD8.out | with_reducible refine zFj ?_ | with_reducible refine zBx ?_));done) | go_keep)
      (first
        | (go_at_call 93
           with_reducible refine(HK5.out _ ?_).mono ?_
           · (repeat (first | with_reducible exact HD.out | with_reducible exact HD3.out | with_reducible exact HD4.out | with_reducible exact HD5.out | with_reducible exact HD6.out | with_reducible exact HD7.out | with_reducible exact HD8.out | with_reducible refine xO ?_ | with_reducible refine uG ?_))
           rintro e w7 ⟨y8,rfl,hy,hd7⟩;have HD7:=zh (Drawn.trans (K:=K+200+2+4+2) (a:=WX) (by(repeat (first | with_reducible exact HD.out | with_reducible exact HD3.out | with_reducible exact HD4.out | with_reducible exact HD5.out | with_reducible exact HD6.out | with_reducible exact HD7.out | with_reducible exact HD8.out | with_reducible refine xO ?_ | with_reducible refine uG ?_));done) hd7);have hy58:y8<5:=by omega
           have hyi8:(y8:Int)<5:=by omega
           clear hd7 hy)
        | (go_at_call 97
           refine(HKK.out _ y8 hy58 (by(repeat (first | with_reducible exact vD HD.out | with_reducible exact vD HD3.out | with_reducible exact vD HD4.out | with_reducible exact vD HD5.out | with_reducible exact vD HD6.out | with_reducible exact vD HD7.out | with_reducible exact vD HD8.out | with_reducible refine zFj ?_ | with_reducible refine zBx ?_));done)).mono ?_;rintro e w8 ⟨v8,gs8,rfl,ht8,hn8,hb8⟩;obtain⟨A8,cap8,rfl,_,_⟩:=hn8.reads;have HD8:=zh (Drawn.later (p:=p) (K:=K+200+2+4+2+2) (a:=WX) (by(repeat (first | with_reducible exact HD.out | with_reducible exact HD3.out | with_reducible exact HD4.out | with_reducible exact HD5.out | with_reducible exact HD6.out | with_reducible exact HD7.out | with_reducible exact HD8.out | with_reducible refine xO ?_ | with_reducible refine uG ?_));done) hb8);have HS8:=zh (HS.out.drawn HD8.out (by omega) (by omega));have HT8:=zh (Blk.drawn HT.out HD8.out (by omega));have HX8:=zh (Blk.drawn HX.out HD8.out (by omega));have HN8:=zh hn8;have HTR8:=zh ht8;have r0:=HS8.out.res.cell 0;have rf:=HS8.out.res.frozen 0;have rz:=HS8.out.res.lt;simp at r0;have kk8:=And.intro (((HS8.out.box.far (p:=⟨w.heap.size+1,0,none⟩) (show q≠w.heap.size+1 by omega) (.slice A8 gs8.length cap8)).cell 0).trans (show _=some (Value.slice A fs.length cap) from rfl)) (And.intro (((HT8.out.far (p:=⟨w.heap.size+1,0,none⟩) (show w.heap.size≠w.heap.size+1 by omega) (.slice A8 gs8.length cap8)).cell 1).trans (show _=some (Value.string gl) from rfl)) (HFX.out _ (HX8.out.far (p:=⟨w.heap.size+1,0,none⟩) (show q6≠w.heap.size+1 by omega) (.slice A8 gs8.length cap8))))
           clear hn8 ht8 hb8))
     go_wp2_with fail;refine bodyPost_ret (v:=.agg #[.slice A8 gs8.length cap8]) (by simp[results,Tryz.results39,go_sem,r0]) rfl ?_;exact⟨_,gs8,rfl,HN8.out.setBlk HS8.out.res (by decide) (by decide),HTR8.out,(HS8.out.draw.set (show w.heap.size≤w.heap.size+1 by omega) hpw 0 _).mono (by omega)⟩
 · have q0:=HQC.out _ (vD HD.out);obtain⟨x0,x1,x2⟩:=q0;go_wp2_with fail
   go_region_held3 (fun w'=>w'.cell? ⟨q,0,none⟩=some (.slice A fs.length cap)∧w'.cell? ⟨w.heap.size,1,none⟩=some (.string gl)∧∀j,j<5→w'.cell? ⟨q6,j,none⟩=some (F j))
    (first | with_reducible exact kk | exact HQC.out _ (by(repeat (first | with_reducible exact vD HD.out | with_reducible exact vD HD3.out | with_reducible exact vD HD4.out | with_reducible exact vD HD5.out | with_reducible exact vD HD6.out | with_reducible exact vD HD7.out | with_reducible exact vD HD8.out | with_reducible refine zFj ?_ | with_reducible refine zBx ?_));done) | go_keep)
    (first
      | (go_at_call 93
         with_reducible refine(HKA.out _ ?_).mono ?_
         · (repeat (first | with_reducible exact HD.out | with_reducible exact HD3.out | with_reducible exact HD4.out | with_reducible exact HD5.out | with_reducible exact HD6.out | with_reducible exact HD7.out | with_reducible exact HD8.out | with_reducible refine xO ?_ | with_reducible refine uG ?_))
         rintro e w3 ⟨y,rfl,hy,hd3⟩;have HD3:=zh (Drawn.trans (K:=K+200+2) (a:=WX) (by(repeat (first | with_reducible exact HD.out | with_reducible exact HD3.out | with_reducible exact HD4.out | with_reducible exact HD5.out | with_reducible exact HD6.out | with_reducible exact HD7.out | with_reducible exact HD8.out | with_reducible refine xO ?_ | with_reducible refine uG ?_));done) hd3);have HCS3:=zh (fun g0:Nat=>zKs (A:=some ⟨g0,0,none⟩) (n:=4) (ss:=[⟨#[]⟩,⟨#[112,94,113,94,114]⟩,⟨#[118]⟩,⟨#[112]⟩]) (K:=K+200+2) (wo:=WX) (by(repeat (first | with_reducible exact HD.out | with_reducible exact HD3.out | with_reducible exact HD4.out | with_reducible exact HD5.out | with_reducible exact HD6.out | with_reducible exact HD7.out | with_reducible exact HD8.out | with_reducible refine xO ?_ | with_reducible refine uG ?_));done) hd3);have HCB3:=zh (fun g0:Nat=>zHk (g:=g0) (cs:=#[.slice none 0 0]) (K:=K+200+2) (wo:=WX) (by(repeat (first | with_reducible exact HD.out | with_reducible exact HD3.out | with_reducible exact HD4.out | with_reducible exact HD5.out | with_reducible exact HD6.out | with_reducible exact HD7.out | with_reducible exact HD8.out | with_reducible refine xO ?_ | with_reducible refine uG ?_));done) hd3);have hy5:y<5:=by omega
         have hyi:(y:Int)<5:=by omega
         have hw3:=HD3.out.chg.size
         clear hd3 hy)
      | (go_at_call 96
         with_reducible refine(HKT.out _ _ ?_ ?_).mono ?_
         · (repeat (first | with_reducible exact HD.out | with_reducible exact HD3.out | with_reducible exact HD4.out | with_reducible exact HD5.out | with_reducible exact HD6.out | with_reducible exact HD7.out | with_reducible exact HD8.out | with_reducible refine xO ?_ | with_reducible refine uG ?_))
         · (repeat (first | ((with_reducible refine zAs ?_ ?_ ?_);rfl;simp;rfl;done) | with_reducible refine wM ?_ | with_reducible refine zDu ?_ | with_reducible refine HCS3.out _ ?_))
         rintro e w4 ⟨vl,hvl,rfl,hd4⟩;have HD4:=zh (Drawn.trans (K:=K+200+2+2) (a:=WX) (by(repeat (first | with_reducible exact HD.out | with_reducible exact HD3.out | with_reducible exact HD4.out | with_reducible exact HD5.out | with_reducible exact HD6.out | with_reducible exact HD7.out | with_reducible exact HD8.out | with_reducible refine xO ?_ | with_reducible refine uG ?_));done) hd4);have HCB4:=zh (fun g0:Nat=>zHk (g:=g0) (cs:=#[.slice none 0 0]) (K:=K+200+2+2) (wo:=WX) (by(repeat (first | with_reducible exact HD.out | with_reducible exact HD3.out | with_reducible exact HD4.out | with_reducible exact HD5.out | with_reducible exact HD6.out | with_reducible exact HD7.out | with_reducible exact HD8.out | with_reducible refine xO ?_ | with_reducible refine uG ?_));done) hd4);have HVL:Hid (vl.size≤16):=(by decide:∀s∈([⟨#[]⟩,⟨#[112,94,113,94,114]⟩,⟨#[118]⟩,⟨#[112]⟩]:List ByteArray),s.size≤16) vl hvl;have hw4:=HD4.out.chg.size
         clear hd4 hvl)
      | (go_at_call 95
         refine(HKP.out _ y _ hy5 (by(repeat (first | with_reducible exact vD HD.out | with_reducible exact vD HD3.out | with_reducible exact vD HD4.out | with_reducible exact vD HD5.out | with_reducible exact vD HD6.out | with_reducible exact vD HD7.out | with_reducible exact vD HD8.out | with_reducible refine zFj ?_ | with_reducible refine zBx ?_));done) HVL.out).mono ?_;rintro e w5 ⟨v5,gs,code,rfl,hcd,hn5,hb5⟩;obtain⟨A5,cap5,rfl,_,_⟩:=hn5.reads;have HD5:=zh (Drawn.later (p:=p) (K:=K+200+2+2+2) (a:=WX) (by(repeat (first | with_reducible exact HD.out | with_reducible exact HD3.out | with_reducible exact HD4.out | with_reducible exact HD5.out | with_reducible exact HD6.out | with_reducible exact HD7.out | with_reducible exact HD8.out | with_reducible refine xO ?_ | with_reducible refine uG ?_));done) hb5);have HCB5:=zh (fun (g0:Nat) (h:Blk _ g0 26 #[.slice none 0 0])=>Blk.later h hb5 h.lt);have HN5:=zh hn5;have HCD:=zh hcd;have HQ5:=zh (HS.out.drawn HD5.out (by omega) (by omega));have k0:=HQ5.out.res.cell 0;have kf:=HQ5.out.res.frozen 0;have kz:=HQ5.out.res.lt;simp at k0;clear hn5 hb5 hcd
         first
           | (refine(show Blk w5 (w2.heap.size) 26 #[.slice none 0 0]→_ from fun hbx=>?_) ?_
              rotate_left
              (focus (refine HCB5.out _ ?_;(repeat (first | ((with_reducible refine uZ ?_);simp;done) | with_reducible refine vR ?_ | with_reducible refine wR ?_ | with_reducible refine HCB4.out _ ?_ | with_reducible refine HCB3.out _ ?_));done))
              have hge:WX.heap.size≤w2.heap.size:=by omega
              have hgw:w.heap.size+1<w2.heap.size:=by omega
              have HD9:=zh (HD5.out.set hge hpx 0 (.slice A5 gs.length cap5));have HQ9:=zh (HS.out.drawn HD9.out (by omega) (by omega));have HFI:Hid (uA gs=true→zDr p (K+220) w (.returned (.agg #[(.slice A5 gs.length cap5)])) ((w5.setCell ⟨w2.heap.size,0,none⟩ (.slice A5 gs.length cap5)).setCell ⟨w.heap.size+1,0,none⟩ (.slice A5 gs.length cap5))):=fun ht=>⟨_,gs,rfl,(HN5.out.setBlk hbx (by decide) (by decide)).setBlk HQ9.out.res (by decide) (by decide),ht,(HQ9.out.draw.set (show w.heap.size≤w.heap.size+1 by omega) hpw 0 _).mono (by omega)⟩;have kk:=HQC.out _ (vD HD9.out);have hne:w2.heap.size≠w.heap.size+1:=by omega
              have bx0:=hbx.cell 0;have bf0:=hbx.frozen 0;have bz0:=hbx.lt;simp at bx0
              clear hbx HQ9)
           | (refine(show Blk w5 (w2.heap.size+1) 26 #[.slice none 0 0]→_ from fun hbx=>?_) ?_
              rotate_left
              (focus (refine HCB5.out _ ?_;(repeat (first | ((with_reducible refine uZ ?_);simp;done) | with_reducible refine vR ?_ | with_reducible refine wR ?_ | with_reducible refine HCB4.out _ ?_ | with_reducible refine HCB3.out _ ?_));done))
              have hge:WX.heap.size≤w2.heap.size+1:=by omega
              have hgw:w.heap.size+1<w2.heap.size+1:=by omega
              have HD9:=zh (HD5.out.set hge hpx 0 (.slice A5 gs.length cap5));have HQ9:=zh (HS.out.drawn HD9.out (by omega) (by omega));have HFI:Hid (uA gs=true→zDr p (K+220) w (.returned (.agg #[(.slice A5 gs.length cap5)])) ((w5.setCell ⟨w2.heap.size+1,0,none⟩ (.slice A5 gs.length cap5)).setCell ⟨w.heap.size+1,0,none⟩ (.slice A5 gs.length cap5))):=fun ht=>⟨_,gs,rfl,(HN5.out.setBlk hbx (by decide) (by decide)).setBlk HQ9.out.res (by decide) (by decide),ht,(HQ9.out.draw.set (show w.heap.size≤w.heap.size+1 by omega) hpw 0 _).mono (by omega)⟩;have kk:=HQC.out _ (vD HD9.out);have hne:w2.heap.size+1≠w.heap.size+1:=by omega
              have bx0:=hbx.cell 0;have bf0:=hbx.frozen 0;have bz0:=hbx.lt;simp at bx0
              clear hbx HQ9)
           | (refine(show Blk w5 (w3.heap.size) 26 #[.slice none 0 0]→_ from fun hbx=>?_) ?_
              rotate_left
              (focus (refine HCB5.out _ ?_;(repeat (first | ((with_reducible refine uZ ?_);simp;done) | with_reducible refine vR ?_ | with_reducible refine wR ?_ | with_reducible refine HCB4.out _ ?_ | with_reducible refine HCB3.out _ ?_));done))
              have hge:WX.heap.size≤w3.heap.size:=by omega
              have hgw:w.heap.size+1<w3.heap.size:=by omega
              have HD9:=zh (HD5.out.set hge hpx 0 (.slice A5 gs.length cap5));have HQ9:=zh (HS.out.drawn HD9.out (by omega) (by omega));have HFI:Hid (uA gs=true→zDr p (K+220) w (.returned (.agg #[(.slice A5 gs.length cap5)])) ((w5.setCell ⟨w3.heap.size,0,none⟩ (.slice A5 gs.length cap5)).setCell ⟨w.heap.size+1,0,none⟩ (.slice A5 gs.length cap5))):=fun ht=>⟨_,gs,rfl,(HN5.out.setBlk hbx (by decide) (by decide)).setBlk HQ9.out.res (by decide) (by decide),ht,(HQ9.out.draw.set (show w.heap.size≤w.heap.size+1 by omega) hpw 0 _).mono (by omega)⟩;have kk:=HQC.out _ (vD HD9.out);have hne:w3.heap.size≠w.heap.size+1:=by omega
              have bx0:=hbx.cell 0;have bf0:=hbx.frozen 0;have bz0:=hbx.lt;simp at bx0
              clear hbx HQ9)
           | (refine(show Blk w5 (w3.heap.size+1) 26 #[.slice none 0 0]→_ from fun hbx=>?_) ?_
              rotate_left
              (focus (refine HCB5.out _ ?_;(repeat (first | ((with_reducible refine uZ ?_);simp;done) | with_reducible refine vR ?_ | with_reducible refine wR ?_ | with_reducible refine HCB4.out _ ?_ | with_reducible refine HCB3.out _ ?_));done))
              have hge:WX.heap.size≤w3.heap.size+1:=by omega
              have hgw:w.heap.size+1<w3.heap.size+1:=by omega
              have HD9:=zh (HD5.out.set hge hpx 0 (.slice A5 gs.length cap5));have HQ9:=zh (HS.out.drawn HD9.out (by omega) (by omega));have HFI:Hid (uA gs=true→zDr p (K+220) w (.returned (.agg #[(.slice A5 gs.length cap5)])) ((w5.setCell ⟨w3.heap.size+1,0,none⟩ (.slice A5 gs.length cap5)).setCell ⟨w.heap.size+1,0,none⟩ (.slice A5 gs.length cap5))):=fun ht=>⟨_,gs,rfl,(HN5.out.setBlk hbx (by decide) (by decide)).setBlk HQ9.out.res (by decide) (by decide),ht,(HQ9.out.draw.set (show w.heap.size≤w.heap.size+1 by omega) hpw 0 _).mono (by omega)⟩;have kk:=HQC.out _ (vD HD9.out);have hne:w3.heap.size+1≠w.heap.size+1:=by omega
              have bx0:=hbx.cell 0;have bf0:=hbx.frozen 0;have bz0:=hbx.lt;simp at bx0
              clear hbx HQ9)
           | (refine(show Blk w5 (w4.heap.size) 26 #[.slice none 0 0]→_ from fun hbx=>?_) ?_
              rotate_left
              (focus (refine HCB5.out _ ?_;(repeat (first | ((with_reducible refine uZ ?_);simp;done) | with_reducible refine vR ?_ | with_reducible refine wR ?_ | with_reducible refine HCB4.out _ ?_ | with_reducible refine HCB3.out _ ?_));done))
              have hge:WX.heap.size≤w4.heap.size:=by omega
              have hgw:w.heap.size+1<w4.heap.size:=by omega
              have HD9:=zh (HD5.out.set hge hpx 0 (.slice A5 gs.length cap5));have HQ9:=zh (HS.out.drawn HD9.out (by omega) (by omega));have HFI:Hid (uA gs=true→zDr p (K+220) w (.returned (.agg #[(.slice A5 gs.length cap5)])) ((w5.setCell ⟨w4.heap.size,0,none⟩ (.slice A5 gs.length cap5)).setCell ⟨w.heap.size+1,0,none⟩ (.slice A5 gs.length cap5))):=fun ht=>⟨_,gs,rfl,(HN5.out.setBlk hbx (by decide) (by decide)).setBlk HQ9.out.res (by decide) (by decide),ht,(HQ9.out.draw.set (show w.heap.size≤w.heap.size+1 by omega) hpw 0 _).mono (by omega)⟩;have kk:=HQC.out _ (vD HD9.out);have hne:w4.heap.size≠w.heap.size+1:=by omega
              have bx0:=hbx.cell 0;have bf0:=hbx.frozen 0;have bz0:=hbx.lt;simp at bx0
              clear hbx HQ9)
           | (have HD9:=zh (xO (o:=.cells #[.slice A5 gs.length cap5] 26) HD5.out)
              have HFI:Hid (uA gs=true→zDr p (K+220) w (.returned (.agg #[.slice A5 gs.length cap5])) ((w5.setCell ⟨w.heap.size+1,0,none⟩ (.slice A5 gs.length cap5)).alloc (.cells #[.slice A5 gs.length cap5] 26))):=fun ht=>⟨_,gs,rfl,(HN5.out.setBlk HQ5.out.res (by decide) (by decide)).later (Below.new _ _),ht,((HQ5.out.draw.set (show w.heap.size≤w.heap.size+1 by omega) hpw 0 _).later (Below.new _ _)).mono (by omega)⟩)))
   all_goals
    clear x0 x1 x2;by_cases hc:code=0
    · have HOK:=zh (HFI.out (HCD.out hc));subst hc;clear HFI HCD HD9;go_wp2_with fail;refine bodyPost_ret (v:=.agg #[.slice A5 gs.length cap5]) (by simp[results,Tryz.results39,go_sem,World.cell?_alloc_lt,kz,k0]) rfl ?_;exact HOK.out
    · have hc2:(code==0)=false:=beq_eq_false_iff_ne.2 hc;clear HFI HCD k0 kf kz;go_wp2_with fail;refine(HK3.out _ HD9.out).mono ?_;rintro e w6 ⟨b8,rfl,hd6⟩;have HD6:=zh (HD9.out.trans hd6);have HS6:=zh (HS.out.drawn HD6.out (by omega) (by omega));clear hd6 HD9;obtain⟨s0,s1,s2⟩:=HQC.out w6 (vD HD6.out);have r0:=HS6.out.res.cell 0;have rf:=HS6.out.res.frozen 0;have rz:=HS6.out.res.lt;have sz:=HS6.out.box.lt;simp at r0;cases b8
      · go_wp2_with fail;refine bodyPost_ret (v:=.agg #[.slice A fs.length cap]) (by simp[results,Tryz.results39,go_sem,r0]) rfl ?_;exact⟨_,fs,rfl,HS6.out.own.setBlk HS6.out.res (by decide) (by decide),HS6.out.tree,(HS6.out.draw.set (show w.heap.size≤w.heap.size+1 by omega) hpw 0 _).mono (by omega)⟩
      · clear r0 rf rz;go_wp2_with fail
        go_region_held3 (fun w'=>w'.cell? ⟨q,0,none⟩=some (.slice A fs.length cap)∧w'.cell? ⟨w.heap.size,1,none⟩=some (.string gl)∧∀j,j<5→w'.cell? ⟨q6,j,none⟩=some (F j))
         (first | with_reducible exact kk8 | exact HQC.out _ (by(repeat (first | with_reducible exact vD HD.out | with_reducible exact vD HD3.out | with_reducible exact vD HD4.out | with_reducible exact vD HD5.out | with_reducible exact vD HD6.out | with_reducible exact vD HD7.out | with_reducible exact vD HD8.out | with_reducible refine zFj ?_ | with_reducible refine zBx ?_));done) | go_keep)
         (first
           | (go_at_call 93
              with_reducible refine(HK5.out _ ?_).mono ?_
              · (repeat (first | with_reducible exact HD.out | with_reducible exact HD3.out | with_reducible exact HD4.out | with_reducible exact HD5.out | with_reducible exact HD6.out | with_reducible exact HD7.out | with_reducible exact HD8.out | with_reducible refine xO ?_ | with_reducible refine uG ?_))
              rintro e w7 ⟨y8,rfl,hy,hd7⟩;have HD7:=zh (Drawn.trans (K:=K+200+2+4+2) (a:=WX) (by(repeat (first | with_reducible exact HD.out | with_reducible exact HD3.out | with_reducible exact HD4.out | with_reducible exact HD5.out | with_reducible exact HD6.out | with_reducible exact HD7.out | with_reducible exact HD8.out | with_reducible refine xO ?_ | with_reducible refine uG ?_));done) hd7);have hy58:y8<5:=by omega
              have hyi8:(y8:Int)<5:=by omega
              clear hd7 hy)
           | (go_at_call 97
              refine(HKK.out _ y8 hy58 (by(repeat (first | with_reducible exact vD HD.out | with_reducible exact vD HD3.out | with_reducible exact vD HD4.out | with_reducible exact vD HD5.out | with_reducible exact vD HD6.out | with_reducible exact vD HD7.out | with_reducible exact vD HD8.out | with_reducible refine zFj ?_ | with_reducible refine zBx ?_));done)).mono ?_;rintro e w8 ⟨v8,gs8,rfl,ht8,hn8,hb8⟩;obtain⟨A8,cap8,rfl,_,_⟩:=hn8.reads;have HD8:=zh (Drawn.later (p:=p) (K:=K+200+2+4+2+2) (a:=WX) (by(repeat (first | with_reducible exact HD.out | with_reducible exact HD3.out | with_reducible exact HD4.out | with_reducible exact HD5.out | with_reducible exact HD6.out | with_reducible exact HD7.out | with_reducible exact HD8.out | with_reducible refine xO ?_ | with_reducible refine uG ?_));done) hb8);have HS8:=zh (HS.out.drawn HD8.out (by omega) (by omega));have HT8:=zh (Blk.drawn HT.out HD8.out (by omega));have HX8:=zh (Blk.drawn HX.out HD8.out (by omega));have HN8:=zh hn8;have HTR8:=zh ht8;have r0:=HS8.out.res.cell 0;have rf:=HS8.out.res.frozen 0;have rz:=HS8.out.res.lt;simp at r0;have kk8:=And.intro (((HS8.out.box.far (p:=⟨w.heap.size+1,0,none⟩) (show q≠w.heap.size+1 by omega) (.slice A8 gs8.length cap8)).cell 0).trans (show _=some (Value.slice A fs.length cap) from rfl)) (And.intro (((HT8.out.far (p:=⟨w.heap.size+1,0,none⟩) (show w.heap.size≠w.heap.size+1 by omega) (.slice A8 gs8.length cap8)).cell 1).trans (show _=some (Value.string gl) from rfl)) (HFX.out _ (HX8.out.far (p:=⟨w.heap.size+1,0,none⟩) (show q6≠w.heap.size+1 by omega) (.slice A8 gs8.length cap8))))
              clear hn8 ht8 hb8))
        go_wp2_with fail;refine bodyPost_ret (v:=.agg #[.slice A8 gs8.length cap8]) (by simp[results,Tryz.results39,go_sem,r0]) rfl ?_;exact⟨_,gs8,rfl,HN8.out.setBlk HS8.out.res (by decide) (by decide),HTR8.out,(HS8.out.draw.set (show w.heap.size≤w.heap.size+1 by omega) hpw 0 _).mono (by omega)⟩
end Go.Proofs.YtfpcjhajjejpdaaGreatDoor
namespace Go.Proofs.YtfpcjhajjejpdaaGreatDoor
open Go.RowKit
set_option linter.unusedVariables false
theorem zIp (A:Option Addr) (n c:Nat) (w:World) (h:BytesR w w.heap.size A n) (hn:n≤1048576) :
 Calls Tryz.prog 37 #[.slice A n c] w fun e w'=>e=.returned (.pointer (some ⟨w.heap.size,0,none⟩))∧SrcR w' w.heap.size 0∧Below w.heap.size w w':=by
 have H:=zh h;clear h;go_enter Tryz.func37,Tryz.ntmps37;go_wp2_with fail;go_ret;exact⟨rfl,⟨A,n,c,0,0,xC rfl,H.out.later (fun i hi=>Below.heap_alloc _ _ _ hi),Nat.le_refl _,hn,by omega⟩,Below.new _ _⟩
theorem Drawn.below {p K B:Nat} {a b w:World} (h0:Below B w a) (h:Drawn p K a b) (hp:B≤p) (hB:B≤w.heap.size):Below B w b:=Own.Chg.below h0 h.chg (fun g e=>by rw[e];exact hp) hB
theorem BytesR.later' {w w':World} {A:Option Addr} {n:Nat} (h:BytesR w w.heap.size A n) (hb:Below w.heap.size w w'):BytesR w' w'.heap.size A n:=fun hn=>by
 obtain⟨b,o,e,hb1,hc⟩:=h hn;refine⟨b,o,e,Nat.lt_of_lt_of_le hb1 hb.size,fun j hj=>?_⟩;obtain⟨x,h1,h2⟩:=hc j hj;exact⟨x,cell_later hb h1,h2⟩
section
variable {P:Nat→Prop} {X Y:World} {bs:Nat} (k:Own.Chg P X Y) (hP:∀g,P g→g<bs)
include k hP
theorem zGR {v:Value} {ss:List ByteArray} (h:Own.SubO X bs v ss):Own.SubO Y bs v ss:=Own.own_chg h k (Own.inP_of h fun g h1 _ hp=>by have:=hP g hp;omega)
theorem zJA {v:Value} {fs:List NodeD} (h:NodesO X bs v fs):NodesO Y bs v fs:=by
 obtain⟨vs,h⟩:=h;obtain⟨h1,h2⟩:=Own.OwnL.inP h (P:=fun g=>¬P g) (fun g h1 _ hp=>by have:=hP g hp;omega);exact⟨vs,Own.OwnL.chg h k h1 h2⟩
theorem zLU {c0 c1 c2 c3:Value} {d:TableD} (h:TabO X bs c0 c1 c2 c3 d):TabO Y bs c0 c1 c2 c3 d:=⟨h.nm,h.gl,zGR k hP h.cols,zGR k hP h.idx,h.ap⟩
end
end Go.Proofs.YtfpcjhajjejpdaaGreatDoor
