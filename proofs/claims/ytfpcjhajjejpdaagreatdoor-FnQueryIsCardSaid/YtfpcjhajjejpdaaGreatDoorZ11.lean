import Derived.Test.YtfpcjhajjejpdaaGreatDoorZ10
open Go.Lib renaming hid → zh
namespace Go.Proofs.YtfpcjhajjejpdaaGreatDoor
open Go.RowKit
theorem uN {s:ByteArray} (h:s≠⟨#[]⟩):(s.toList==[])=false:=by
 have:=uC h;simpa [yD] using this
def zF0 (c:CondD):Bool:=zB0 c.col&&(inB c.op 1 4&&zZ0 c.val)
def zBG (od:ByteArray):Bool:=decide (od=⟨#[]⟩)||zB0 od
def vN (q:QueryD):Bool:=zB0 q.table&&(decide (q.cols.length≤5)&&(decide (q.wher.length≤3)&&(zBG q.order&&((!q.desc||decide (q.order≠⟨#[]⟩))&&(inB q.limit 0 24&&(yC (xI q.cols) 0 q.cols.length&&q.wher.all zF0))))))
theorem zBk {α:Type} [Inhabited α] (p:α→Bool) (l:List α) (k:Nat) (h:k<l.length):(l.drop k).all p=(p (l.getD k default)&&(l.drop (k+1)).all p):=by
 rw[List.drop_eq_getElem_cons h,List.all_cons,List.getD_eq_getElem?_getD,List.getElem?_eq_getElem h];rfl
set_option maxRecDepth 100000 in
set_option maxHeartbeats 4000000 in
theorem zDq (c0 c1 c2 c3 c4 c5:Value) (d:QueryD) (w:World) (h:QueryR w w.heap.size c0 c1 c2 c3 c4 c5 d) (hs:d.small) :
 Calls Tryz.prog 118 #[.agg #[c0,c1,c2,c3,c4,c5]] w fun e w'=>e=.returned (.bool (vN d))∧Below w.heap.size w w':=by
 obtain⟨rfl,⟨A1,n1,p1,rfl,s1,k1⟩,⟨A2,n2,p2,rfl,s2,k2⟩,rfl,rfl,rfl⟩:=h;obtain⟨f0,⟨f1,f1'⟩,⟨f2,f2'⟩,f3⟩:=hs;have hn1:n1≤1048576:=by rw[←s1.1];exact f1
 have hn2:n2≤1048576:=by rw[←s2.1];exact f2
 have hR:vN d=(zB0 d.table&&(decide (n1≤5)&&(decide (n2≤3)&&(zBG d.order&&((!d.desc||decide (d.order≠⟨#[]⟩))&&(inB d.limit 0 24&&(yC (xI d.cols) 0 n1&&d.wher.all zF0))))))):=by unfold vN;rw[s1.1,s2.1]
 have HR:=zh hR;clear hR;have HK0:=zh (fun W=>vD d.table W f0);have HK3:=zh (fun W=>vD d.order W f3);have HK5:=zh (fun W=>zBr d.limit 0 24 W);have HS1:=zh s1;have HS2:=zh s2;have HZ1:=zh f1';have HZ2:=zh f2';clear s1 s2 f2' f1' f2 f1 f0 f3;have HO:Hid (zBG d.order=(decide (d.order=⟨#[]⟩)||zB0 d.order)):=rfl;generalize vN d=R at *;generalize zBG d.order=xo at *;generalize zB0 d.table=x0 at *;generalize zB0 d.order=x3 at *;generalize inB d.limit 0 24=x5 at *;generalize d.table=tb at *;generalize d.order=od at *;generalize d.desc=ds at *;generalize d.limit=lm at *;generalize d.cols=cols at *;generalize d.wher=wher at *;have HB0:=zh (Below.new w (.cells #[.string tb,.slice A1 n1 p1,.slice A2 n2 p2,.string od,.bool ds,.int .i64 lm] 32));have HBq:=zh (fun q=>vA (Below.new w (.cells #[.string tb,.slice A1 n1 p1,.slice A2 n2 p2,.string od,.bool ds,.int .i64 lm] 32)) q);go_enter Tryz.func118,Tryz.ntmps118;go_wp2_with fail;refine(HK0.out _).mono ?_;rintro e w1 ⟨rfl,rfl⟩;cases x0
 · have HE:Hid (R=false):=by unfold Hid;rw[HR.out];rfl
   go_wp2_with fail;go_ret;exact⟨zA0 HE.out.symm,HB0.out⟩
 by_cases a1:5<n1
 · have HE:Hid (R=false):=by unfold Hid;rw[HR.out,decide_eq_false (show ¬n1≤5 by omega)];rfl
   go_wp2_with fail;go_ret;exact⟨zA0 HE.out.symm,HB0.out⟩
 by_cases a2:3<n2
 · have HE:Hid (R=false):=by unfold Hid;rw[HR.out,decide_eq_false (show ¬n2≤3 by omega)];simp
   go_wp2_with fail;go_ret;exact⟨zA0 HE.out.symm,HB0.out⟩
 have HR1:Hid (R=(xo&&((!ds||decide (od≠⟨#[]⟩))&&(x5&&(yC (xI cols) 0 n1&&wher.all zF0))))):=by unfold Hid;rw[HR.out,decide_eq_true (show n1≤5 by omega),decide_eq_true (show n2≤3 by omega)];rfl
 clear HR;by_cases ho:od=⟨#[]⟩
 · subst ho;cases ds
   · have HR2:Hid (R=(x5&&(yC (xI cols) 0 (n1-0)&&wher.all zF0))):=by unfold Hid;rw[HR1.out,HO.out];rfl
     go_wp2_with fail;refine(HK5.out _).mono ?_;rintro e w1 ⟨rfl,rfl⟩;cases x5
     · have HE:Hid (R=false):=by unfold Hid;rw[HR2.out];rfl
       go_wp2_with fail;go_ret;exact⟨zA0 HE.out.symm,HB0.out⟩
     have HE:Hid (R=(yC (xI cols) 0 (n1-0)&&wher.all zF0)):=by unfold Hid;rw[HR2.out];rfl
     clear HR2 HR1;go_wp2_with fail;go_loopw [3] (fun i wr=>∃(k q:Nat),k≤n1∧i=.int .i64 k∧wr=(w.alloc (.cells #[.string tb,.slice A1 n1 p1,.slice A2 n2 p2,.string ⟨#[]⟩,.bool false,.int .i64 lm] 32)).drewN q∧Hid (R=(yC (xI cols) k (n1-k)&&wher.all zF0))) (fun i _=>n1-(intOf i).toNat);case atStart=>exact⟨0,0,Nat.zero_le _,rfl,rfl,HE.out⟩
     case round =>
      obtain⟨k,q,hk,rfl,rfl,hS⟩:=hrel;by_cases hlt:k<n1
      · obtain⟨b,o,rfl,hb,hcell⟩:=HS1.out.2 (by omega);have hck:=hcell k hlt;clear hcell;have hl:k<cols.length:=by rw[HS1.out.1];exact hlt
        have HSt:=zh (vP (xI cols) k n1 hlt);have HC:Hid (xI cols k=(zB0 (cols.getD k ByteArray.empty)&&decide (xA (cols.take k) (cols.getD k ByteArray.empty)<0))):=rfl;have HKn:=zh (fun W=>vD (cols.getD k ByteArray.empty) W (zAi HZ1.out k hl));have HKp:=zh (fun W (hW:Below w.heap.size w W)=>uF (some ⟨b,o,none⟩) k p1 (cols.take k) (cols.getD k ByteArray.empty) W ((HS1.out.take k (by omega)).later hW) (by omega));have hbd:=xD (cols.take k) (cols.getD k ByteArray.empty);have hlk:(cols.take k).length=k:=by rw[List.length_take];omega
        rw[hlk]at hbd;have i1:(k:Int)<(n1:Int):=by omega
        have i2:(k:Int)≤(n1:Int):=by omega
        have i3:(k:Int)≤(p1:Int):=by omega
        have i4:(0:Int)≤(k:Int):=by omega
        clear hl hlk;generalize cols.getD k ByteArray.empty=s at *;generalize xA (cols.take k) s=y at *;generalize zB0 s=x at *;cases x
        · have HE2:Hid (R=false):=by unfold Hid;rw[hS.out,HSt.out,HC.out];rfl
          go_wp2_with fail
          go_quiet (first | (go_at_call 131;refine zE0 (HKn.out _)))
          go_wp2_with fail;go_ret;exact⟨zA0 HE2.out.symm,by first | exact HBq.out _ | exact vA (HBq.out _) _⟩
        · by_cases hy:0≤y
          · have HE2:Hid (R=false):=by unfold Hid;rw[hS.out,HSt.out,HC.out,decide_eq_false (show ¬y<0 by omega)];rfl
            have hd:decide (0≤y)=true:=decide_eq_true hy;go_wp2_with fail
            go_quiet (first | (go_at_call 131;refine zE0 (HKn.out _)) | (go_at_call 90;refine zE0 (HKp.out _ (by exact HBq.out _))))
            go_wp2_with fail;go_ret;exact⟨zA0 HE2.out.symm,by first | exact HBq.out _ | exact vA (HBq.out _) _⟩
          · have HE2:Hid (R=(yC (xI cols) (k+1) (n1-(k+1))&&wher.all zF0)):=by unfold Hid;rw[hS.out,HSt.out,HC.out,decide_eq_true (show y<0 by omega)];rfl
            have hd:decide (0≤y)=false:=decide_eq_false hy;go_wp2_with fail
            go_quiet (first | (go_at_call 131;refine zE0 (HKn.out _)) | (go_at_call 90;refine zE0 (HKp.out _ (by exact HBq.out _))))
            go_wp2_with fail;go_roundw;case rel=>exact⟨k+1,_,by omega,by go_num,rfl,HE2.out⟩
            case measure=>simp[intOf];omega
      · have HE2:Hid (R=(wher.drop 0).all zF0):=by unfold Hid;rw[hS.out,zS0 _ _ _ hlt];rfl
        clear hS HE;go_wp2_with fail;go_loopw [4] (fun i wr=>∃(j:Nat),j≤n2∧i=.int .i64 j∧Below (w.heap.size+1) (w.alloc (.cells #[.string tb,.slice A1 n1 p1,.slice A2 n2 p2,.string ⟨#[]⟩,.bool false,.int .i64 lm] 32)) wr∧Hid (R=(wher.drop j).all zF0)) (fun i _=>n2-(intOf i).toNat);case atStart=>exact⟨0,Nat.zero_le _,rfl,vA (Below.refl _ _) _,HE2.out⟩
        case round =>
         obtain⟨j,hj,rfl,hb,hS2⟩:=hrel;have p2':=(Blk.later (heap_alloc_new w _) hb (by omega)).cell;have hz0:w.heap.size<wr.heap.size:=by have:=hb.size;simp at this;omega
         have HB:=zh hb;have HBw:=zh ((Below.new _ _).trans (hb.mono (by omega)));clear hb;by_cases hltj:j<n2
         · obtain⟨b,o,rfl,hb,hcell⟩:=(HS2.out.later HBw.out).2 (by omega);obtain⟨c0,c1,c2,k0,k1',k2',hr⟩:=hcell j hltj;clear hcell;have hl:j<wher.length:=by rw[HS2.out.1];exact hltj
           have HSt:=zh (zBk zF0 wher j hl);have hsm:=HZ2.out _ (wB wher j hl);have HC:Hid (zF0 (wher.getD j default)=(zB0 (wher.getD j default).col&&(inB (wher.getD j default).op 1 4&&zZ0 (wher.getD j default).val))):=rfl;clear hl;generalize wher.getD j default=f at *;obtain⟨e0,e1,e2⟩:=hr;subst e0 e1 e2;have HKa:=zh (fun W=>vD f.col W hsm.1);have HKb:=zh (fun W=>zBr f.op 1 4 W);have HKc:=zh (fun W=>zAF f.val W hsm.2);clear hsm;generalize zF0 f=X at *;generalize zB0 f.col=y0 at *;generalize inB f.op 1 4=y1 at *;generalize zZ0 f.val=y2 at *;generalize f.col=cc at *;generalize f.op=co at *;generalize f.val=cv at *;have HBn:=zh (fun o=>HBw.out.later (Below.new wr o));go_wp2_with fail;refine(HKa.out _).mono ?_;rintro e w1 ⟨rfl,rfl⟩;cases y0
           · have HE3:Hid (R=false):=by unfold Hid;rw[hS2.out,HSt.out,HC.out];rfl
             go_wp2_with fail;go_ret;exact⟨zA0 HE3.out.symm,HBn.out _⟩
           go_wp2_with fail;refine(HKb.out _).mono ?_;rintro e w1 ⟨rfl,rfl⟩;cases y1
           · have HE3:Hid (R=false):=by unfold Hid;rw[hS2.out,HSt.out,HC.out];rfl
             go_wp2_with fail;go_ret;exact⟨zA0 HE3.out.symm,HBn.out _⟩
           go_wp2_with fail;refine(HKc.out _).mono ?_;rintro e w1 ⟨rfl,rfl⟩;cases y2
           · have HE3:Hid (R=false):=by unfold Hid;rw[hS2.out,HSt.out,HC.out];rfl
             go_wp2_with fail;go_ret;exact⟨zA0 HE3.out.symm,HBn.out _⟩
           have HE3:Hid (R=(wher.drop (j+1)).all zF0):=by unfold Hid;rw[hS2.out,HSt.out,HC.out];rfl
           have HB1:=zh (fun o=>HB.out.trans ((Below.new wr o).mono (by omega)));go_wp2_with fail;go_roundw;case rel=>exact⟨j+1,by omega,by go_num,HB1.out _,HE3.out⟩
           case measure=>simp[intOf];omega
         · have HE3:Hid (R=true):=by unfold Hid;rw[hS2.out,List.drop_of_length_le (by rw[HS2.out.1];omega)];rfl
           go_wp2_with fail;go_ret;exact⟨zA0 HE3.out.symm,HBw.out⟩
   · have HE:Hid (R=false):=by unfold Hid;rw[HR1.out,HO.out];rfl
     go_wp2_with fail;go_ret;exact⟨zA0 HE.out.symm,HB0.out⟩
 · have hbe:=uN ho;have hbe2:=uC ho;have hbn:=zP0 ho;have HO2:Hid (xo=x3):=by unfold Hid;rw[HO.out,decide_eq_false ho];rfl
   have HO3:Hid (decide (od≠⟨#[]⟩)=true):=decide_eq_true ho;clear ho HO;go_wp2_with fail;refine(HK3.out _).mono ?_;rintro e w1 ⟨rfl,rfl⟩;cases x3
   · have HE:Hid (R=false):=by unfold Hid;rw[HR1.out,HO2.out];rfl
     go_wp2_with fail;go_ret;exact⟨zA0 HE.out.symm,HB0.out⟩
   cases ds
   · have HR2:Hid (R=(x5&&(yC (xI cols) 0 (n1-0)&&wher.all zF0))):=by unfold Hid;rw[HR1.out,HO2.out,HO3.out];rfl
     go_wp2_with fail;refine(HK5.out _).mono ?_;rintro e w1 ⟨rfl,rfl⟩;cases x5
     · have HE:Hid (R=false):=by unfold Hid;rw[HR2.out];rfl
       go_wp2_with fail;go_ret;exact⟨zA0 HE.out.symm,HB0.out⟩
     have HE:Hid (R=(yC (xI cols) 0 (n1-0)&&wher.all zF0)):=by unfold Hid;rw[HR2.out];rfl
     clear HR2 HR1;go_wp2_with fail;go_loopw [3] (fun i wr=>∃(k q:Nat),k≤n1∧i=.int .i64 k∧wr=(w.alloc (.cells #[.string tb,.slice A1 n1 p1,.slice A2 n2 p2,.string od,.bool false,.int .i64 lm] 32)).drewN q∧Hid (R=(yC (xI cols) k (n1-k)&&wher.all zF0))) (fun i _=>n1-(intOf i).toNat);case atStart=>exact⟨0,0,Nat.zero_le _,rfl,rfl,HE.out⟩
     case round =>
      obtain⟨k,q,hk,rfl,rfl,hS⟩:=hrel;by_cases hlt:k<n1
      · obtain⟨b,o,rfl,hb,hcell⟩:=HS1.out.2 (by omega);have hck:=hcell k hlt;clear hcell;have hl:k<cols.length:=by rw[HS1.out.1];exact hlt
        have HSt:=zh (vP (xI cols) k n1 hlt);have HC:Hid (xI cols k=(zB0 (cols.getD k ByteArray.empty)&&decide (xA (cols.take k) (cols.getD k ByteArray.empty)<0))):=rfl;have HKn:=zh (fun W=>vD (cols.getD k ByteArray.empty) W (zAi HZ1.out k hl));have HKp:=zh (fun W (hW:Below w.heap.size w W)=>uF (some ⟨b,o,none⟩) k p1 (cols.take k) (cols.getD k ByteArray.empty) W ((HS1.out.take k (by omega)).later hW) (by omega));have hbd:=xD (cols.take k) (cols.getD k ByteArray.empty);have hlk:(cols.take k).length=k:=by rw[List.length_take];omega
        rw[hlk]at hbd;have i1:(k:Int)<(n1:Int):=by omega
        have i2:(k:Int)≤(n1:Int):=by omega
        have i3:(k:Int)≤(p1:Int):=by omega
        have i4:(0:Int)≤(k:Int):=by omega
        clear hl hlk;generalize cols.getD k ByteArray.empty=s at *;generalize xA (cols.take k) s=y at *;generalize zB0 s=x at *;cases x
        · have HE2:Hid (R=false):=by unfold Hid;rw[hS.out,HSt.out,HC.out];rfl
          go_wp2_with fail
          go_quiet (first | (go_at_call 131;refine zE0 (HKn.out _)))
          go_wp2_with fail;go_ret;exact⟨zA0 HE2.out.symm,by first | exact HBq.out _ | exact vA (HBq.out _) _⟩
        · by_cases hy:0≤y
          · have HE2:Hid (R=false):=by unfold Hid;rw[hS.out,HSt.out,HC.out,decide_eq_false (show ¬y<0 by omega)];rfl
            have hd:decide (0≤y)=true:=decide_eq_true hy;go_wp2_with fail
            go_quiet (first | (go_at_call 131;refine zE0 (HKn.out _)) | (go_at_call 90;refine zE0 (HKp.out _ (by exact HBq.out _))))
            go_wp2_with fail;go_ret;exact⟨zA0 HE2.out.symm,by first | exact HBq.out _ | exact vA (HBq.out _) _⟩
          · have HE2:Hid (R=(yC (xI cols) (k+1) (n1-(k+1))&&wher.all zF0)):=by unfold Hid;rw[hS.out,HSt.out,HC.out,decide_eq_true (show y<0 by omega)];rfl
            have hd:decide (0≤y)=false:=decide_eq_false hy;go_wp2_with fail
            go_quiet (first | (go_at_call 131;refine zE0 (HKn.out _)) | (go_at_call 90;refine zE0 (HKp.out _ (by exact HBq.out _))))
            go_wp2_with fail;go_roundw;case rel=>exact⟨k+1,_,by omega,by go_num,rfl,HE2.out⟩
            case measure=>simp[intOf];omega
      · have HE2:Hid (R=(wher.drop 0).all zF0):=by unfold Hid;rw[hS.out,zS0 _ _ _ hlt];rfl
        clear hS HE;go_wp2_with fail;go_loopw [4] (fun i wr=>∃(j:Nat),j≤n2∧i=.int .i64 j∧Below (w.heap.size+1) (w.alloc (.cells #[.string tb,.slice A1 n1 p1,.slice A2 n2 p2,.string od,.bool false,.int .i64 lm] 32)) wr∧Hid (R=(wher.drop j).all zF0)) (fun i _=>n2-(intOf i).toNat);case atStart=>exact⟨0,Nat.zero_le _,rfl,vA (Below.refl _ _) _,HE2.out⟩
        case round =>
         obtain⟨j,hj,rfl,hb,hS2⟩:=hrel;have p2':=(Blk.later (heap_alloc_new w _) hb (by omega)).cell;have hz0:w.heap.size<wr.heap.size:=by have:=hb.size;simp at this;omega
         have HB:=zh hb;have HBw:=zh ((Below.new _ _).trans (hb.mono (by omega)));clear hb;by_cases hltj:j<n2
         · obtain⟨b,o,rfl,hb,hcell⟩:=(HS2.out.later HBw.out).2 (by omega);obtain⟨c0,c1,c2,k0,k1',k2',hr⟩:=hcell j hltj;clear hcell;have hl:j<wher.length:=by rw[HS2.out.1];exact hltj
           have HSt:=zh (zBk zF0 wher j hl);have hsm:=HZ2.out _ (wB wher j hl);have HC:Hid (zF0 (wher.getD j default)=(zB0 (wher.getD j default).col&&(inB (wher.getD j default).op 1 4&&zZ0 (wher.getD j default).val))):=rfl;clear hl;generalize wher.getD j default=f at *;obtain⟨e0,e1,e2⟩:=hr;subst e0 e1 e2;have HKa:=zh (fun W=>vD f.col W hsm.1);have HKb:=zh (fun W=>zBr f.op 1 4 W);have HKc:=zh (fun W=>zAF f.val W hsm.2);clear hsm;generalize zF0 f=X at *;generalize zB0 f.col=y0 at *;generalize inB f.op 1 4=y1 at *;generalize zZ0 f.val=y2 at *;generalize f.col=cc at *;generalize f.op=co at *;generalize f.val=cv at *;have HBn:=zh (fun o=>HBw.out.later (Below.new wr o));go_wp2_with fail;refine(HKa.out _).mono ?_;rintro e w1 ⟨rfl,rfl⟩;cases y0
           · have HE3:Hid (R=false):=by unfold Hid;rw[hS2.out,HSt.out,HC.out];rfl
             go_wp2_with fail;go_ret;exact⟨zA0 HE3.out.symm,HBn.out _⟩
           go_wp2_with fail;refine(HKb.out _).mono ?_;rintro e w1 ⟨rfl,rfl⟩;cases y1
           · have HE3:Hid (R=false):=by unfold Hid;rw[hS2.out,HSt.out,HC.out];rfl
             go_wp2_with fail;go_ret;exact⟨zA0 HE3.out.symm,HBn.out _⟩
           go_wp2_with fail;refine(HKc.out _).mono ?_;rintro e w1 ⟨rfl,rfl⟩;cases y2
           · have HE3:Hid (R=false):=by unfold Hid;rw[hS2.out,HSt.out,HC.out];rfl
             go_wp2_with fail;go_ret;exact⟨zA0 HE3.out.symm,HBn.out _⟩
           have HE3:Hid (R=(wher.drop (j+1)).all zF0):=by unfold Hid;rw[hS2.out,HSt.out,HC.out];rfl
           have HB1:=zh (fun o=>HB.out.trans ((Below.new wr o).mono (by omega)));go_wp2_with fail;go_roundw;case rel=>exact⟨j+1,by omega,by go_num,HB1.out _,HE3.out⟩
           case measure=>simp[intOf];omega
         · have HE3:Hid (R=true):=by unfold Hid;rw[hS2.out,List.drop_of_length_le (by rw[HS2.out.1];omega)];rfl
           go_wp2_with fail;go_ret;exact⟨zA0 HE3.out.symm,HBw.out⟩
   · have HR2:Hid (R=(x5&&(yC (xI cols) 0 (n1-0)&&wher.all zF0))):=by unfold Hid;rw[HR1.out,HO2.out,HO3.out];rfl
     go_wp2_with fail;refine(HK5.out _).mono ?_;rintro e w1 ⟨rfl,rfl⟩;cases x5
     · have HE:Hid (R=false):=by unfold Hid;rw[HR2.out];rfl
       go_wp2_with fail;go_ret;exact⟨zA0 HE.out.symm,HB0.out⟩
     have HE:Hid (R=(yC (xI cols) 0 (n1-0)&&wher.all zF0)):=by unfold Hid;rw[HR2.out];rfl
     clear HR2 HR1;go_wp2_with fail;go_loopw [3] (fun i wr=>∃(k q:Nat),k≤n1∧i=.int .i64 k∧wr=(w.alloc (.cells #[.string tb,.slice A1 n1 p1,.slice A2 n2 p2,.string od,.bool true,.int .i64 lm] 32)).drewN q∧Hid (R=(yC (xI cols) k (n1-k)&&wher.all zF0))) (fun i _=>n1-(intOf i).toNat);case atStart=>exact⟨0,0,Nat.zero_le _,rfl,rfl,HE.out⟩
     case round =>
      obtain⟨k,q,hk,rfl,rfl,hS⟩:=hrel;by_cases hlt:k<n1
      · obtain⟨b,o,rfl,hb,hcell⟩:=HS1.out.2 (by omega);have hck:=hcell k hlt;clear hcell;have hl:k<cols.length:=by rw[HS1.out.1];exact hlt
        have HSt:=zh (vP (xI cols) k n1 hlt);have HC:Hid (xI cols k=(zB0 (cols.getD k ByteArray.empty)&&decide (xA (cols.take k) (cols.getD k ByteArray.empty)<0))):=rfl;have HKn:=zh (fun W=>vD (cols.getD k ByteArray.empty) W (zAi HZ1.out k hl));have HKp:=zh (fun W (hW:Below w.heap.size w W)=>uF (some ⟨b,o,none⟩) k p1 (cols.take k) (cols.getD k ByteArray.empty) W ((HS1.out.take k (by omega)).later hW) (by omega));have hbd:=xD (cols.take k) (cols.getD k ByteArray.empty);have hlk:(cols.take k).length=k:=by rw[List.length_take];omega
        rw[hlk]at hbd;have i1:(k:Int)<(n1:Int):=by omega
        have i2:(k:Int)≤(n1:Int):=by omega
        have i3:(k:Int)≤(p1:Int):=by omega
        have i4:(0:Int)≤(k:Int):=by omega
        clear hl hlk;generalize cols.getD k ByteArray.empty=s at *;generalize xA (cols.take k) s=y at *;generalize zB0 s=x at *;cases x
        · have HE2:Hid (R=false):=by unfold Hid;rw[hS.out,HSt.out,HC.out];rfl
          go_wp2_with fail
          go_quiet (first | (go_at_call 131;refine zE0 (HKn.out _)))
          go_wp2_with fail;go_ret;exact⟨zA0 HE2.out.symm,by first | exact HBq.out _ | exact vA (HBq.out _) _⟩
        · by_cases hy:0≤y
          · have HE2:Hid (R=false):=by unfold Hid;rw[hS.out,HSt.out,HC.out,decide_eq_false (show ¬y<0 by omega)];rfl
            have hd:decide (0≤y)=true:=decide_eq_true hy;go_wp2_with fail
            go_quiet (first | (go_at_call 131;refine zE0 (HKn.out _)) | (go_at_call 90;refine zE0 (HKp.out _ (by exact HBq.out _))))
            go_wp2_with fail;go_ret;exact⟨zA0 HE2.out.symm,by first | exact HBq.out _ | exact vA (HBq.out _) _⟩
          · have HE2:Hid (R=(yC (xI cols) (k+1) (n1-(k+1))&&wher.all zF0)):=by unfold Hid;rw[hS.out,HSt.out,HC.out,decide_eq_true (show y<0 by omega)];rfl
            have hd:decide (0≤y)=false:=decide_eq_false hy;go_wp2_with fail
            go_quiet (first | (go_at_call 131;refine zE0 (HKn.out _)) | (go_at_call 90;refine zE0 (HKp.out _ (by exact HBq.out _))))
            go_wp2_with fail;go_roundw;case rel=>exact⟨k+1,_,by omega,by go_num,rfl,HE2.out⟩
            case measure=>simp[intOf];omega
      · have HE2:Hid (R=(wher.drop 0).all zF0):=by unfold Hid;rw[hS.out,zS0 _ _ _ hlt];rfl
        clear hS HE;go_wp2_with fail;go_loopw [4] (fun i wr=>∃(j:Nat),j≤n2∧i=.int .i64 j∧Below (w.heap.size+1) (w.alloc (.cells #[.string tb,.slice A1 n1 p1,.slice A2 n2 p2,.string od,.bool true,.int .i64 lm] 32)) wr∧Hid (R=(wher.drop j).all zF0)) (fun i _=>n2-(intOf i).toNat);case atStart=>exact⟨0,Nat.zero_le _,rfl,vA (Below.refl _ _) _,HE2.out⟩
        case round =>
         obtain⟨j,hj,rfl,hb,hS2⟩:=hrel;have p2':=(Blk.later (heap_alloc_new w _) hb (by omega)).cell;have hz0:w.heap.size<wr.heap.size:=by have:=hb.size;simp at this;omega
         have HB:=zh hb;have HBw:=zh ((Below.new _ _).trans (hb.mono (by omega)));clear hb;by_cases hltj:j<n2
         · obtain⟨b,o,rfl,hb,hcell⟩:=(HS2.out.later HBw.out).2 (by omega);obtain⟨c0,c1,c2,k0,k1',k2',hr⟩:=hcell j hltj;clear hcell;have hl:j<wher.length:=by rw[HS2.out.1];exact hltj
           have HSt:=zh (zBk zF0 wher j hl);have hsm:=HZ2.out _ (wB wher j hl);have HC:Hid (zF0 (wher.getD j default)=(zB0 (wher.getD j default).col&&(inB (wher.getD j default).op 1 4&&zZ0 (wher.getD j default).val))):=rfl;clear hl;generalize wher.getD j default=f at *;obtain⟨e0,e1,e2⟩:=hr;subst e0 e1 e2;have HKa:=zh (fun W=>vD f.col W hsm.1);have HKb:=zh (fun W=>zBr f.op 1 4 W);have HKc:=zh (fun W=>zAF f.val W hsm.2);clear hsm;generalize zF0 f=X at *;generalize zB0 f.col=y0 at *;generalize inB f.op 1 4=y1 at *;generalize zZ0 f.val=y2 at *;generalize f.col=cc at *;generalize f.op=co at *;generalize f.val=cv at *;have HBn:=zh (fun o=>HBw.out.later (Below.new wr o));go_wp2_with fail;refine(HKa.out _).mono ?_;rintro e w1 ⟨rfl,rfl⟩;cases y0
           · have HE3:Hid (R=false):=by unfold Hid;rw[hS2.out,HSt.out,HC.out];rfl
             go_wp2_with fail;go_ret;exact⟨zA0 HE3.out.symm,HBn.out _⟩
           go_wp2_with fail;refine(HKb.out _).mono ?_;rintro e w1 ⟨rfl,rfl⟩;cases y1
           · have HE3:Hid (R=false):=by unfold Hid;rw[hS2.out,HSt.out,HC.out];rfl
             go_wp2_with fail;go_ret;exact⟨zA0 HE3.out.symm,HBn.out _⟩
           go_wp2_with fail;refine(HKc.out _).mono ?_;rintro e w1 ⟨rfl,rfl⟩;cases y2
           · have HE3:Hid (R=false):=by unfold Hid;rw[hS2.out,HSt.out,HC.out];rfl
             go_wp2_with fail;go_ret;exact⟨zA0 HE3.out.symm,HBn.out _⟩
           have HE3:Hid (R=(wher.drop (j+1)).all zF0):=by unfold Hid;rw[hS2.out,HSt.out,HC.out];rfl
           have HB1:=zh (fun o=>HB.out.trans ((Below.new wr o).mono (by omega)));go_wp2_with fail;go_roundw;case rel=>exact⟨j+1,by omega,by go_num,HB1.out _,HE3.out⟩
           case measure=>simp[intOf];omega
         · have HE3:Hid (R=true):=by unfold Hid;rw[hS2.out,List.drop_of_length_le (by rw[HS2.out.1];omega)];rfl
           go_wp2_with fail;go_ret;exact⟨zA0 HE3.out.symm,HBw.out⟩
end Go.Proofs.YtfpcjhajjejpdaaGreatDoor
