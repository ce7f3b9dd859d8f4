import Derived.Test.YtfpcjhajjejpdaaGreatDoorY07
import Derived.Test.YtfpcjhajjejpdaaGreatDoorY06
set_option maxHeartbeats 4000000
open Go.Lib renaming hid → zh
namespace Go.Proofs.YtfpcjhajjejpdaaGreatDoor
open Go.RowKit
theorem zBp {P:Program} {f:FuncId} {args:Array Value} {w:World} {n:Nat} {v:Value}
 (h:Calls P f args (w.drewN n) fun e w'=>e=.returned v∧w.drewN n=w'):Calls P f args (w.drewN n) fun e w''=>e=.returned v∧∃m,w''=w.drewN m :=
 h.mono fun _ _ ⟨he,hm⟩=>⟨he,n,hm.symm⟩
theorem uF {P:Program} {f:FuncId} {args:Array Value} {w:World} {q n:Nat} {v:Value}
 (h:Calls P f args (w.drewN (q+n)) fun e w'=>e=.returned v∧w.drewN (q+n)=w'):Calls P f args (w.drewN (q+n)) fun e w''=>e=.returned v∧∃m,w''=w.drewN (q+m) :=
 h.mono fun _ _ ⟨he,hm⟩=>⟨he,n,hm.symm⟩
def vL (cols:List ByteArray) (k:Nat):Bool:=xB (cols.getD k ByteArray.empty)&&decide (xA (cols.take k) (cols.getD k ByteArray.empty)<0)
def zAK (cols:List ByteArray):List ByteArray→Int→Bool
 | [],_=>true
 | x::r,last=>decide (last<xA cols x)&&zAK cols r (xA cols x)
theorem zGx (cols l:List ByteArray) (k:Nat) (last:Int) (h:k<l.length):zAK cols (l.drop k) last=(decide (last<xA cols (l.getD k ByteArray.empty))&&zAK cols (l.drop (k+1)) (xA cols (l.getD k ByteArray.empty))):=by
 rw[List.drop_eq_getElem_cons h,zAK,List.getD_eq_getElem?_getD,List.getElem?_eq_getElem h];rfl
def xP (d:TableD):Bool:=xB d.name&&(xB d.glob&&(decide (1≤d.cols.length)&&(decide (d.cols.length≤5)&&(decide (d.idx.length<d.cols.length)&&(zD0 (vL d.cols) 0 d.cols.length&&zAK d.cols d.idx 0)))))
set_option maxRecDepth 100000 in
theorem zCo (c0 c1 c2 c3:Value) (d:TableD) (w:World) (h:TableR w w.heap.size c0 c1 c2 c3 d) (hs:d.small) :
 Calls Tryz.prog 58 #[.agg #[c0,c1,c2,c3]] w fun e w'=>e=.returned (.bool (xP d))∧Below w.heap.size w w':=by
 obtain⟨rfl,rfl,⟨A2,n2,p2,rfl,s2,k2⟩,⟨A3,n3,p3,rfl,s3,k3⟩⟩:=h;obtain⟨f0,f1,⟨f2,f2'⟩,⟨f3,f3'⟩⟩:=hs;have hn2:n2≤1048576:=by rw[←s2.1];exact f2
 have hn3:n3≤1048576:=by rw[←s3.1];exact f3
 have hR:xP d=(xB d.name&&(xB d.glob&&(decide (1≤n2)&&(decide (n2≤5)&&(decide (n3<n2)&&(zD0 (vL d.cols) 0 n2&&zAK d.cols d.idx 0)))))):=by unfold xP;rw[s2.1,s3.1]
 have HR:=zh hR;clear hR;have HK0:=zh (fun W=>xF d.name W f0);have HK1:=zh (fun W=>xF d.glob W f1);have HS2:=zh s2;have HS3:=zh s3;have HZ2:=zh f2';clear s2 s3 f2' f3' f2 f3 f0 f1;have HB0:=zh (Below.new w (.cells #[.string d.name,.string d.glob,.slice A2 n2 p2,.slice A3 n3 p3] 29));have HBq:=zh (fun q=>wA (Below.new w (.cells #[.string d.name,.string d.glob,.slice A2 n2 p2,.slice A3 n3 p3] 29)) q);generalize xP d=R at *;generalize xB d.name=x0 at *;generalize xB d.glob=x1 at *;generalize d.name=nm at *;generalize d.glob=gl at *;generalize d.cols=cols at *;generalize d.idx=idx at *;go_enter Tryz.func58,Tryz.ntmps58;go_wp2_with fail;refine(HK0.out _).mono ?_;rintro e w1 ⟨rfl,rfl⟩;cases x0
 · have HE:Hid (R=false):=by unfold Hid;rw[HR.out];rfl
   go_wp2_with fail;go_ret;exact⟨zA0 HE.out.symm,HB0.out⟩
 go_wp2_with fail;refine(HK1.out _).mono ?_;rintro e w1 ⟨rfl,rfl⟩;cases x1
 · have HE:Hid (R=false):=by unfold Hid;rw[HR.out];rfl
   go_wp2_with fail;go_ret;exact⟨zA0 HE.out.symm,HB0.out⟩
 by_cases a1:n2<1
 · have HE:Hid (R=false):=by unfold Hid;rw[HR.out,decide_eq_false (show ¬1≤n2 by omega)];rfl
   go_wp2_with fail;go_ret;exact⟨zA0 HE.out.symm,HB0.out⟩
 by_cases a2:5<n2
 · have HE:Hid (R=false):=by unfold Hid;rw[HR.out,decide_eq_false (show ¬n2≤5 by omega)];simp
   go_wp2_with fail;go_ret;exact⟨zA0 HE.out.symm,HB0.out⟩
 by_cases a3:n2≤n3
 · have HE:Hid (R=false):=by unfold Hid;rw[HR.out,decide_eq_false (show ¬n3<n2 by omega)];simp
   go_wp2_with fail;go_ret;exact⟨zA0 HE.out.symm,HB0.out⟩
 have HE:Hid (R=(zD0 (vL cols) 0 (n2-0)&&zAK cols idx 0)):=by unfold Hid;rw[HR.out,decide_eq_true (show 1≤n2 by omega),decide_eq_true (show n2≤5 by omega),decide_eq_true (show n3<n2 by omega)];rfl
 clear HR;go_wp2_with fail;go_loopw [3] (fun i wr=>∃(k q:Nat),k≤n2∧i=.int .i64 k∧wr=(w.alloc (.cells #[.string nm,.string gl,.slice A2 n2 p2,.slice A3 n3 p3] 29)).drewN q∧Hid (R=(zD0 (vL cols) k (n2-k)&&zAK cols idx 0))) (fun i _=>n2-(intOf i).toNat);case atStart=>exact⟨0,0,Nat.zero_le _,rfl,rfl,HE.out⟩
 case round =>
  obtain⟨k,q,hk,rfl,rfl,hS⟩:=hrel;by_cases hlt:k<n2
  · obtain⟨b,o,rfl,hb,hcell⟩:=HS2.out.2 (by omega);have hck:=hcell k hlt;clear hcell;have hl:k<cols.length:=by rw[HS2.out.1];exact hlt
    have HSt:=zh (zT0 (vL cols) k n2 hlt);have HC:Hid (vL cols k=(xB (cols.getD k ByteArray.empty)&&decide (xA (cols.take k) (cols.getD k ByteArray.empty)<0))):=rfl;have HKn:=zh (fun W=>xF (cols.getD k ByteArray.empty) W (zAL HZ2.out k hl));have HKp:=zh (fun W (hW:Below w.heap.size w W)=>yE (some ⟨b,o,none⟩) k p2 (cols.take k) (cols.getD k ByteArray.empty) W ((HS2.out.take k (by omega)).later hW) (by omega));have hbd:=xD (cols.take k) (cols.getD k ByteArray.empty);have hlk:(cols.take k).length=k:=by rw[List.length_take];omega
    rw[hlk]at hbd;have i1:(k:Int)<(n2:Int):=by omega
    have i2:(k:Int)≤(n2:Int):=by omega
    have i3:(k:Int)≤(p2:Int):=by omega
    have i4:(0:Int)≤(k:Int):=by omega
    clear hl hlk;generalize cols.getD k ByteArray.empty=s at *;generalize xA (cols.take k) s=y at *;generalize xB s=x at *;cases x
    · have HE2:Hid (R=false):=by unfold Hid;rw[hS.out,HSt.out,HC.out];rfl
      go_wp2_with fail
      go_quiet (first | (go_at_call 131;refine uF (HKn.out _)))
      go_wp2_with fail;go_ret;exact⟨zA0 HE2.out.symm,by first | exact HBq.out _ | exact wA (HBq.out _) _⟩
    · by_cases hy:0≤y
      · have HE2:Hid (R=false):=by unfold Hid;rw[hS.out,HSt.out,HC.out,decide_eq_false (show ¬y<0 by omega)];rfl
        have hd:decide (0≤y)=true:=decide_eq_true hy;go_wp2_with fail
        go_quiet (first | (go_at_call 131;refine uF (HKn.out _)) | (go_at_call 90;refine uF (HKp.out _ (by exact HBq.out _))))
        go_wp2_with fail;go_ret;exact⟨zA0 HE2.out.symm,by first | exact HBq.out _ | exact wA (HBq.out _) _⟩
      · have HE2:Hid (R=(zD0 (vL cols) (k+1) (n2-(k+1))&&zAK cols idx 0)):=by unfold Hid;rw[hS.out,HSt.out,HC.out,decide_eq_true (show y<0 by omega)];rfl
        have hd:decide (0≤y)=false:=decide_eq_false hy;go_wp2_with fail
        go_quiet (first | (go_at_call 131;refine uF (HKn.out _)) | (go_at_call 90;refine uF (HKp.out _ (by exact HBq.out _))))
        go_wp2_with fail;go_roundw;case rel=>exact⟨k+1,_,by omega,by go_num,rfl,HE2.out⟩
        case measure=>simp[intOf];omega
  · have HE2:Hid (R=zAK cols (idx.drop 0) 0):=by unfold Hid;rw[hS.out,zW0 _ _ _ hlt];rfl
    clear hS HE;obtain⟨q0,hq0⟩:∃q0,q0=q:=⟨_,rfl⟩;go_wp2_with fail;go_loopw [5,4] (fun i last wr=>∃(j q:Nat) (m:Int),j≤n3∧i=.int .i64 j∧last=.int .i64 m∧0≤m∧m≤5∧wr=(w.alloc (.cells #[.string nm,.string gl,.slice A2 n2 p2,.slice A3 n3 p3] 29)).drewN q∧Hid (R=zAK cols (idx.drop j) m)) (fun i _ _=>n3-(intOf i).toNat);case atStart=>exact⟨0,_,0,Nat.zero_le _,rfl,rfl,by omega,by omega,rfl,HE2.out⟩
    case round =>
     obtain⟨j,q2,m,hj,rfl,rfl,hm0,hm1,rfl,hS2⟩:=hrel;by_cases hltj:j<n3
     · obtain⟨b,o,rfl,hb,hcell⟩:=HS3.out.2 (by omega);have hck:=hcell j hltj;clear hcell;have hl:j<idx.length:=by rw[HS3.out.1];exact hltj
       have HSt:=zh (zGx cols idx j m hl);have HKp:=zh (fun W (hW:Below w.heap.size w W)=>yE A2 n2 p2 cols (idx.getD j ByteArray.empty) W (HS2.out.later hW) hn2);have hbd:=xD cols (idx.getD j ByteArray.empty);rw[HS2.out.1]at hbd;have i1:(j:Int)<(n3:Int):=by omega
       clear hl;generalize idx.getD j ByteArray.empty=s at *;generalize xA cols s=y at *;go_wp2_with fail
       go_quiet (first | (go_at_call 90;refine uF (HKp.out _ (by exact HBq.out _))))
       by_cases hy:y≤m
       · have HE3:Hid (R=false):=by unfold Hid;rw[hS2.out,HSt.out,decide_eq_false (show ¬m<y by omega)];rfl
         go_wp2_with fail;go_ret;exact⟨zA0 HE3.out.symm,by first | exact HBq.out _ | exact wA (HBq.out _) _⟩
       · have HE3:Hid (R=zAK cols (idx.drop (j+1)) y):=by unfold Hid;rw[hS2.out,HSt.out,decide_eq_true (show m<y by omega)];rfl
         go_wp2_with fail;go_roundw;case rel=>exact⟨j+1,_,y,by omega,by go_num,rfl,by omega,by omega,rfl,HE3.out⟩
         case measure=>simp[intOf];omega
     · have HE3:Hid (R=true):=by unfold Hid;rw[hS2.out,List.drop_of_length_le (by rw[HS3.out.1];omega)];rfl
       go_wp2_with fail;go_ret;exact⟨zA0 HE3.out.symm,HBq.out _⟩
end Go.Proofs.YtfpcjhajjejpdaaGreatDoor
namespace Go.Proofs.YtfpcjhajjejpdaaGreatDoor
open Go.RowKit
theorem wJ {s:ByteArray} (h:s≠⟨#[]⟩):(s.toList==[])=false:=by
 have:=zB0 h;simpa [wE] using this
def yH (c:CondD):Bool:=xB c.col&&(inB c.op 1 4&&zAw c.val)
def zCD (od:ByteArray):Bool:=decide (od=⟨#[]⟩)||xB od
def uQ (q:QueryD):Bool:=xB q.table&&(decide (q.cols.length≤5)&&(decide (q.wher.length≤3)&&(zCD q.order&&((!q.desc||decide (q.order≠⟨#[]⟩))&&(inB q.limit 0 24&&(zD0 (vL q.cols) 0 q.cols.length&&q.wher.all yH))))))
theorem zCf {α:Type} [Inhabited α] (p:α→Bool) (l:List α) (k:Nat) (h:k<l.length):(l.drop k).all p=(p (l.getD k default)&&(l.drop (k+1)).all p):=by
 rw[List.drop_eq_getElem_cons h,List.all_cons,List.getD_eq_getElem?_getD,List.getElem?_eq_getElem h];rfl
set_option maxRecDepth 100000 in
theorem zEj (c0 c1 c2 c3 c4 c5:Value) (d:QueryD) (w:World) (h:QueryR w w.heap.size c0 c1 c2 c3 c4 c5 d) (hs:d.small) :
 Calls Tryz.prog 118 #[.agg #[c0,c1,c2,c3,c4,c5]] w fun e w'=>e=.returned (.bool (uQ d))∧Below w.heap.size w w':=by
 obtain⟨rfl,⟨A1,n1,p1,rfl,s1,k1⟩,⟨A2,n2,p2,rfl,s2,k2⟩,rfl,rfl,rfl⟩:=h;obtain⟨f0,⟨f1,f1'⟩,⟨f2,f2'⟩,f3⟩:=hs;have hn1:n1≤1048576:=by rw[←s1.1];exact f1
 have hn2:n2≤1048576:=by rw[←s2.1];exact f2
 have hR:uQ d=(xB d.table&&(decide (n1≤5)&&(decide (n2≤3)&&(zCD d.order&&((!d.desc||decide (d.order≠⟨#[]⟩))&&(inB d.limit 0 24&&(zD0 (vL d.cols) 0 n1&&d.wher.all yH))))))):=by unfold uQ;rw[s1.1,s2.1]
 have HR:=zh hR;clear hR;have HK0:=zh (fun W=>xF d.table W f0);have HK3:=zh (fun W=>xF d.order W f3);have HK5:=zh (fun W=>zCp d.limit 0 24 W);have HS1:=zh s1;have HS2:=zh s2;have HZ1:=zh f1';have HZ2:=zh f2';clear s1 s2 f2' f1' f2 f1 f0 f3;have HO:Hid (zCD d.order=(decide (d.order=⟨#[]⟩)||xB d.order)):=rfl;generalize uQ d=R at *;generalize zCD d.order=xo at *;generalize xB d.table=x0 at *;generalize xB d.order=x3 at *;generalize inB d.limit 0 24=x5 at *;generalize d.table=tb at *;generalize d.order=od at *;generalize d.desc=ds at *;generalize d.limit=lm at *;generalize d.cols=cols at *;generalize d.wher=wher at *;have HB0:=zh (Below.new w (.cells #[.string tb,.slice A1 n1 p1,.slice A2 n2 p2,.string od,.bool ds,.int .i64 lm] 32));have HBq:=zh (fun q=>wA (Below.new w (.cells #[.string tb,.slice A1 n1 p1,.slice A2 n2 p2,.string od,.bool ds,.int .i64 lm] 32)) q);go_enter Tryz.func118,Tryz.ntmps118;go_wp2_with fail;refine(HK0.out _).mono ?_;rintro e w1 ⟨rfl,rfl⟩;cases x0
 · have HE:Hid (R=false):=by unfold Hid;rw[HR.out];rfl
   go_wp2_with fail;go_ret;exact⟨zA0 HE.out.symm,HB0.out⟩
 by_cases a1:5<n1
 · have HE:Hid (R=false):=by unfold Hid;rw[HR.out,decide_eq_false (show ¬n1≤5 by omega)];rfl
   go_wp2_with fail;go_ret;exact⟨zA0 HE.out.symm,HB0.out⟩
 by_cases a2:3<n2
 · have HE:Hid (R=false):=by unfold Hid;rw[HR.out,decide_eq_false (show ¬n2≤3 by omega)];simp
   go_wp2_with fail;go_ret;exact⟨zA0 HE.out.symm,HB0.out⟩
 have HR1:Hid (R=(xo&&((!ds||decide (od≠⟨#[]⟩))&&(x5&&(zD0 (vL cols) 0 n1&&wher.all yH))))):=by unfold Hid;rw[HR.out,decide_eq_true (show n1≤5 by omega),decide_eq_true (show n2≤3 by omega)];rfl
 clear HR;by_cases ho:od=⟨#[]⟩
 · subst ho;cases ds
   · have HR2:Hid (R=(x5&&(zD0 (vL cols) 0 (n1-0)&&wher.all yH))):=by unfold Hid;rw[HR1.out,HO.out];rfl
     go_wp2_with fail;refine(HK5.out _).mono ?_;rintro e w1 ⟨rfl,rfl⟩;cases x5
     · have HE:Hid (R=false):=by unfold Hid;rw[HR2.out];rfl
       go_wp2_with fail;go_ret;exact⟨zA0 HE.out.symm,HB0.out⟩
     have HE:Hid (R=(zD0 (vL cols) 0 (n1-0)&&wher.all yH)):=by unfold Hid;rw[HR2.out];rfl
     clear HR2 HR1;go_wp2_with fail;go_loopw [3] (fun i wr=>∃(k q:Nat),k≤n1∧i=.int .i64 k∧wr=(w.alloc (.cells #[.string tb,.slice A1 n1 p1,.slice A2 n2 p2,.string ⟨#[]⟩,.bool false,.int .i64 lm] 32)).drewN q∧Hid (R=(zD0 (vL cols) k (n1-k)&&wher.all yH))) (fun i _=>n1-(intOf i).toNat);case atStart=>exact⟨0,0,Nat.zero_le _,rfl,rfl,HE.out⟩
     case round =>
      obtain⟨k,q,hk,rfl,rfl,hS⟩:=hrel;by_cases hlt:k<n1
      · obtain⟨b,o,rfl,hb,hcell⟩:=HS1.out.2 (by omega);have hck:=hcell k hlt;clear hcell;have hl:k<cols.length:=by rw[HS1.out.1];exact hlt
        have HSt:=zh (zT0 (vL cols) k n1 hlt);have HC:Hid (vL cols k=(xB (cols.getD k ByteArray.empty)&&decide (xA (cols.take k) (cols.getD k ByteArray.empty)<0))):=rfl;have HKn:=zh (fun W=>xF (cols.getD k ByteArray.empty) W (zAL HZ1.out k hl));have HKp:=zh (fun W (hW:Below w.heap.size w W)=>yE (some ⟨b,o,none⟩) k p1 (cols.take k) (cols.getD k ByteArray.empty) W ((HS1.out.take k (by omega)).later hW) (by omega));have hbd:=xD (cols.take k) (cols.getD k ByteArray.empty);have hlk:(cols.take k).length=k:=by rw[List.length_take];omega
        rw[hlk]at hbd;have i1:(k:Int)<(n1:Int):=by omega
        have i2:(k:Int)≤(n1:Int):=by omega
        have i3:(k:Int)≤(p1:Int):=by omega
        have i4:(0:Int)≤(k:Int):=by omega
        clear hl hlk;generalize cols.getD k ByteArray.empty=s at *;generalize xA (cols.take k) s=y at *;generalize xB s=x at *;cases x
        · have HE2:Hid (R=false):=by unfold Hid;rw[hS.out,HSt.out,HC.out];rfl
          go_wp2_with fail
          go_quiet (first | (go_at_call 131;refine uF (HKn.out _)))
          go_wp2_with fail;go_ret;exact⟨zA0 HE2.out.symm,by first | exact HBq.out _ | exact wA (HBq.out _) _⟩
        · by_cases hy:0≤y
          · have HE2:Hid (R=false):=by unfold Hid;rw[hS.out,HSt.out,HC.out,decide_eq_false (show ¬y<0 by omega)];rfl
            have hd:decide (0≤y)=true:=decide_eq_true hy;go_wp2_with fail
            go_quiet (first | (go_at_call 131;refine uF (HKn.out _)) | (go_at_call 90;refine uF (HKp.out _ (by exact HBq.out _))))
            go_wp2_with fail;go_ret;exact⟨zA0 HE2.out.symm,by first | exact HBq.out _ | exact wA (HBq.out _) _⟩
          · have HE2:Hid (R=(zD0 (vL cols) (k+1) (n1-(k+1))&&wher.all yH)):=by unfold Hid;rw[hS.out,HSt.out,HC.out,decide_eq_true (show y<0 by omega)];rfl
            have hd:decide (0≤y)=false:=decide_eq_false hy;go_wp2_with fail
            go_quiet (first | (go_at_call 131;refine uF (HKn.out _)) | (go_at_call 90;refine uF (HKp.out _ (by exact HBq.out _))))
            go_wp2_with fail;go_roundw;case rel=>exact⟨k+1,_,by omega,by go_num,rfl,HE2.out⟩
            case measure=>simp[intOf];omega
      · have HE2:Hid (R=(wher.drop 0).all yH):=by unfold Hid;rw[hS.out,zW0 _ _ _ hlt];rfl
        clear hS HE;go_wp2_with fail;go_loopw [4] (fun i wr=>∃(j:Nat),j≤n2∧i=.int .i64 j∧Below (w.heap.size+1) (w.alloc (.cells #[.string tb,.slice A1 n1 p1,.slice A2 n2 p2,.string ⟨#[]⟩,.bool false,.int .i64 lm] 32)) wr∧Hid (R=(wher.drop j).all yH)) (fun i _=>n2-(intOf i).toNat);case atStart=>exact⟨0,Nat.zero_le _,rfl,wA (Below.refl _ _) _,HE2.out⟩
        case round =>
         obtain⟨j,hj,rfl,hb,hS2⟩:=hrel;have p2':=(Blk.later (heap_alloc_new w _) hb (by omega)).cell;have hz0:w.heap.size<wr.heap.size:=by have:=hb.size;simp at this;omega
         have HB:=zh hb;have HBw:=zh ((Below.new _ _).trans (hb.mono (by omega)));clear hb;by_cases hltj:j<n2
         · obtain⟨b,o,rfl,hb,hcell⟩:=(HS2.out.later HBw.out).2 (by omega);obtain⟨c0,c1,c2,k0,k1',k2',hr⟩:=hcell j hltj;clear hcell;have hl:j<wher.length:=by rw[HS2.out.1];exact hltj
           have HSt:=zh (zCf yH wher j hl);have hsm:=HZ2.out _ (uB wher j hl);have HC:Hid (yH (wher.getD j default)=(xB (wher.getD j default).col&&(inB (wher.getD j default).op 1 4&&zAw (wher.getD j default).val))):=rfl;clear hl;generalize wher.getD j default=f at *;obtain⟨e0,e1,e2⟩:=hr;subst e0 e1 e2;have HKa:=zh (fun W=>xF f.col W hsm.1);have HKb:=zh (fun W=>zCp f.op 1 4 W);have HKc:=zh (fun W=>zBr f.val W hsm.2);clear hsm;generalize yH f=X at *;generalize xB f.col=y0 at *;generalize inB f.op 1 4=y1 at *;generalize zAw f.val=y2 at *;generalize f.col=cc at *;generalize f.op=co at *;generalize f.val=cv at *;have HBn:=zh (fun o=>HBw.out.later (Below.new wr o));go_wp2_with fail;refine(HKa.out _).mono ?_;rintro e w1 ⟨rfl,rfl⟩;cases y0
           · have HE3:Hid (R=false):=by unfold Hid;rw[hS2.out,HSt.out,HC.out];rfl
             go_wp2_with fail;go_ret;exact⟨zA0 HE3.out.symm,HBn.out _⟩
           go_wp2_with fail;refine(HKb.out _).mono ?_;rintro e w1 ⟨rfl,rfl⟩;cases y1
           · have HE3:Hid (R=false):=by unfold Hid;rw[hS2.out,HSt.out,HC.out];rfl
             go_wp2_with fail;go_ret;exact⟨zA0 HE3.out.symm,HBn.out _⟩
           go_wp2_with fail;refine(HKc.out _).mono ?_;rintro e w1 ⟨rfl,rfl⟩;cases y2
           · have HE3:Hid (R=false):=by unfold Hid;rw[hS2.out,HSt.out,HC.out];rfl
             go_wp2_with fail;go_ret;exact⟨zA0 HE3.out.symm,HBn.out _⟩
           have HE3:Hid (R=(wher.drop (j+1)).all yH):=by unfold Hid;rw[hS2.out,HSt.out,HC.out];rfl
           have HB1:=zh (fun o=>HB.out.trans ((Below.new wr o).mono (by omega)));go_wp2_with fail;go_roundw;case rel=>exact⟨j+1,by omega,by go_num,HB1.out _,HE3.out⟩
           case measure=>simp[intOf];omega
         · have HE3:Hid (R=true):=by unfold Hid;rw[hS2.out,List.drop_of_length_le (by rw[HS2.out.1];omega)];rfl
           go_wp2_with fail;go_ret;exact⟨zA0 HE3.out.symm,HBw.out⟩
   · have HE:Hid (R=false):=by unfold Hid;rw[HR1.out,HO.out];rfl
     go_wp2_with fail;go_ret;exact⟨zA0 HE.out.symm,HB0.out⟩
 · have hbe:=wJ ho;have hbe2:=zB0 ho;have hbn:=yJ ho;have HO2:Hid (xo=x3):=by unfold Hid;rw[HO.out,decide_eq_false ho];rfl
   have HO3:Hid (decide (od≠⟨#[]⟩)=true):=decide_eq_true ho;clear ho HO;go_wp2_with fail;refine(HK3.out _).mono ?_;rintro e w1 ⟨rfl,rfl⟩;cases x3
   · have HE:Hid (R=false):=by unfold Hid;rw[HR1.out,HO2.out];rfl
     go_wp2_with fail;go_ret;exact⟨zA0 HE.out.symm,HB0.out⟩
   cases ds
   · have HR2:Hid (R=(x5&&(zD0 (vL cols) 0 (n1-0)&&wher.all yH))):=by unfold Hid;rw[HR1.out,HO2.out,HO3.out];rfl
     go_wp2_with fail;refine(HK5.out _).mono ?_;rintro e w1 ⟨rfl,rfl⟩;cases x5
     · have HE:Hid (R=false):=by unfold Hid;rw[HR2.out];rfl
       go_wp2_with fail;go_ret;exact⟨zA0 HE.out.symm,HB0.out⟩
     have HE:Hid (R=(zD0 (vL cols) 0 (n1-0)&&wher.all yH)):=by unfold Hid;rw[HR2.out];rfl
     clear HR2 HR1;go_wp2_with fail;go_loopw [3] (fun i wr=>∃(k q:Nat),k≤n1∧i=.int .i64 k∧wr=(w.alloc (.cells #[.string tb,.slice A1 n1 p1,.slice A2 n2 p2,.string od,.bool false,.int .i64 lm] 32)).drewN q∧Hid (R=(zD0 (vL cols) k (n1-k)&&wher.all yH))) (fun i _=>n1-(intOf i).toNat);case atStart=>exact⟨0,0,Nat.zero_le _,rfl,rfl,HE.out⟩
     case round =>
      obtain⟨k,q,hk,rfl,rfl,hS⟩:=hrel;by_cases hlt:k<n1
      · obtain⟨b,o,rfl,hb,hcell⟩:=HS1.out.2 (by omega);have hck:=hcell k hlt;clear hcell;have hl:k<cols.length:=by rw[HS1.out.1];exact hlt
        have HSt:=zh (zT0 (vL cols) k n1 hlt);have HC:Hid (vL cols k=(xB (cols.getD k ByteArray.empty)&&decide (xA (cols.take k) (cols.getD k ByteArray.empty)<0))):=rfl;have HKn:=zh (fun W=>xF (cols.getD k ByteArray.empty) W (zAL HZ1.out k hl));have HKp:=zh (fun W (hW:Below w.heap.size w W)=>yE (some ⟨b,o,none⟩) k p1 (cols.take k) (cols.getD k ByteArray.empty) W ((HS1.out.take k (by omega)).later hW) (by omega));have hbd:=xD (cols.take k) (cols.getD k ByteArray.empty);have hlk:(cols.take k).length=k:=by rw[List.length_take];omega
        rw[hlk]at hbd;have i1:(k:Int)<(n1:Int):=by omega
        have i2:(k:Int)≤(n1:Int):=by omega
        have i3:(k:Int)≤(p1:Int):=by omega
        have i4:(0:Int)≤(k:Int):=by omega
        clear hl hlk;generalize cols.getD k ByteArray.empty=s at *;generalize xA (cols.take k) s=y at *;generalize xB s=x at *;cases x
        · have HE2:Hid (R=false):=by unfold Hid;rw[hS.out,HSt.out,HC.out];rfl
          go_wp2_with fail
          go_quiet (first | (go_at_call 131;refine uF (HKn.out _)))
          go_wp2_with fail;go_ret;exact⟨zA0 HE2.out.symm,by first | exact HBq.out _ | exact wA (HBq.out _) _⟩
        · by_cases hy:0≤y
          · have HE2:Hid (R=false):=by unfold Hid;rw[hS.out,HSt.out,HC.out,decide_eq_false (show ¬y<0 by omega)];rfl
            have hd:decide (0≤y)=true:=decide_eq_true hy;go_wp2_with fail
            go_quiet (first | (go_at_call 131;refine uF (HKn.out _)) | (go_at_call 90;refine uF (HKp.out _ (by exact HBq.out _))))
            go_wp2_with fail;go_ret;exact⟨zA0 HE2.out.symm,by first | exact HBq.out _ | exact wA (HBq.out _) _⟩
          · have HE2:Hid (R=(zD0 (vL cols) (k+1) (n1-(k+1))&&wher.all yH)):=by unfold Hid;rw[hS.out,HSt.out,HC.out,decide_eq_true (show y<0 by omega)];rfl
            have hd:decide (0≤y)=false:=decide_eq_false hy;go_wp2_with fail
            go_quiet (first | (go_at_call 131;refine uF (HKn.out _)) | (go_at_call 90;refine uF (HKp.out _ (by exact HBq.out _))))
            go_wp2_with fail;go_roundw;case rel=>exact⟨k+1,_,by omega,by go_num,rfl,HE2.out⟩
            case measure=>simp[intOf];omega
      · have HE2:Hid (R=(wher.drop 0).all yH):=by unfold Hid;rw[hS.out,zW0 _ _ _ hlt];rfl
        clear hS HE;go_wp2_with fail;go_loopw [4] (fun i wr=>∃(j:Nat),j≤n2∧i=.int .i64 j∧Below (w.heap.size+1) (w.alloc (.cells #[.string tb,.slice A1 n1 p1,.slice A2 n2 p2,.string od,.bool false,.int .i64 lm] 32)) wr∧Hid (R=(wher.drop j).all yH)) (fun i _=>n2-(intOf i).toNat);case atStart=>exact⟨0,Nat.zero_le _,rfl,wA (Below.refl _ _) _,HE2.out⟩
        case round =>
         obtain⟨j,hj,rfl,hb,hS2⟩:=hrel;have p2':=(Blk.later (heap_alloc_new w _) hb (by omega)).cell;have hz0:w.heap.size<wr.heap.size:=by have:=hb.size;simp at this;omega
         have HB:=zh hb;have HBw:=zh ((Below.new _ _).trans (hb.mono (by omega)));clear hb;by_cases hltj:j<n2
         · obtain⟨b,o,rfl,hb,hcell⟩:=(HS2.out.later HBw.out).2 (by omega);obtain⟨c0,c1,c2,k0,k1',k2',hr⟩:=hcell j hltj;clear hcell;have hl:j<wher.length:=by rw[HS2.out.1];exact hltj
           have HSt:=zh (zCf yH wher j hl);have hsm:=HZ2.out _ (uB wher j hl);have HC:Hid (yH (wher.getD j default)=(xB (wher.getD j default).col&&(inB (wher.getD j default).op 1 4&&zAw (wher.getD j default).val))):=rfl;clear hl;generalize wher.getD j default=f at *;obtain⟨e0,e1,e2⟩:=hr;subst e0 e1 e2;have HKa:=zh (fun W=>xF f.col W hsm.1);have HKb:=zh (fun W=>zCp f.op 1 4 W);have HKc:=zh (fun W=>zBr f.val W hsm.2);clear hsm;generalize yH f=X at *;generalize xB f.col=y0 at *;generalize inB f.op 1 4=y1 at *;generalize zAw f.val=y2 at *;generalize f.col=cc at *;generalize f.op=co at *;generalize f.val=cv at *;have HBn:=zh (fun o=>HBw.out.later (Below.new wr o));go_wp2_with fail;refine(HKa.out _).mono ?_;rintro e w1 ⟨rfl,rfl⟩;cases y0
           · have HE3:Hid (R=false):=by unfold Hid;rw[hS2.out,HSt.out,HC.out];rfl
             go_wp2_with fail;go_ret;exact⟨zA0 HE3.out.symm,HBn.out _⟩
           go_wp2_with fail;refine(HKb.out _).mono ?_;rintro e w1 ⟨rfl,rfl⟩;cases y1
           · have HE3:Hid (R=false):=by unfold Hid;rw[hS2.out,HSt.out,HC.out];rfl
             go_wp2_with fail;go_ret;exact⟨zA0 HE3.out.symm,HBn.out _⟩
           go_wp2_with fail;refine(HKc.out _).mono ?_;rintro e w1 ⟨rfl,rfl⟩;cases y2
           · have HE3:Hid (R=false):=by unfold Hid;rw[hS2.out,HSt.out,HC.out];rfl
             go_wp2_with fail;go_ret;exact⟨zA0 HE3.out.symm,HBn.out _⟩
           have HE3:Hid (R=(wher.drop (j+1)).all yH):=by unfold Hid;rw[hS2.out,HSt.out,HC.out];rfl
           have HB1:=zh (fun o=>HB.out.trans ((Below.new wr o).mono (by omega)));go_wp2_with fail;go_roundw;case rel=>exact⟨j+1,by omega,by go_num,HB1.out _,HE3.out⟩
           case measure=>simp[intOf];omega
         · have HE3:Hid (R=true):=by unfold Hid;rw[hS2.out,List.drop_of_length_le (by rw[HS2.out.1];omega)];rfl
           go_wp2_with fail;go_ret;exact⟨zA0 HE3.out.symm,HBw.out⟩
   · have HR2:Hid (R=(x5&&(zD0 (vL cols) 0 (n1-0)&&wher.all yH))):=by unfold Hid;rw[HR1.out,HO2.out,HO3.out];rfl
     go_wp2_with fail;refine(HK5.out _).mono ?_;rintro e w1 ⟨rfl,rfl⟩;cases x5
     · have HE:Hid (R=false):=by unfold Hid;rw[HR2.out];rfl
       go_wp2_with fail;go_ret;exact⟨zA0 HE.out.symm,HB0.out⟩
     have HE:Hid (R=(zD0 (vL cols) 0 (n1-0)&&wher.all yH)):=by unfold Hid;rw[HR2.out];rfl
     clear HR2 HR1;go_wp2_with fail;go_loopw [3] (fun i wr=>∃(k q:Nat),k≤n1∧i=.int .i64 k∧wr=(w.alloc (.cells #[.string tb,.slice A1 n1 p1,.slice A2 n2 p2,.string od,.bool true,.int .i64 lm] 32)).drewN q∧Hid (R=(zD0 (vL cols) k (n1-k)&&wher.all yH))) (fun i _=>n1-(intOf i).toNat);case atStart=>exact⟨0,0,Nat.zero_le _,rfl,rfl,HE.out⟩
     case round =>
      obtain⟨k,q,hk,rfl,rfl,hS⟩:=hrel;by_cases hlt:k<n1
      · obtain⟨b,o,rfl,hb,hcell⟩:=HS1.out.2 (by omega);have hck:=hcell k hlt;clear hcell;have hl:k<cols.length:=by rw[HS1.out.1];exact hlt
        have HSt:=zh (zT0 (vL cols) k n1 hlt);have HC:Hid (vL cols k=(xB (cols.getD k ByteArray.empty)&&decide (xA (cols.take k) (cols.getD k ByteArray.empty)<0))):=rfl;have HKn:=zh (fun W=>xF (cols.getD k ByteArray.empty) W (zAL HZ1.out k hl));have HKp:=zh (fun W (hW:Below w.heap.size w W)=>yE (some ⟨b,o,none⟩) k p1 (cols.take k) (cols.getD k ByteArray.empty) W ((HS1.out.take k (by omega)).later hW) (by omega));have hbd:=xD (cols.take k) (cols.getD k ByteArray.empty);have hlk:(cols.take k).length=k:=by rw[List.length_take];omega
        rw[hlk]at hbd;have i1:(k:Int)<(n1:Int):=by omega
        have i2:(k:Int)≤(n1:Int):=by omega
        have i3:(k:Int)≤(p1:Int):=by omega
        have i4:(0:Int)≤(k:Int):=by omega
        clear hl hlk;generalize cols.getD k ByteArray.empty=s at *;generalize xA (cols.take k) s=y at *;generalize xB s=x at *;cases x
        · have HE2:Hid (R=false):=by unfold Hid;rw[hS.out,HSt.out,HC.out];rfl
          go_wp2_with fail
          go_quiet (first | (go_at_call 131;refine uF (HKn.out _)))
          go_wp2_with fail;go_ret;exact⟨zA0 HE2.out.symm,by first | exact HBq.out _ | exact wA (HBq.out _) _⟩
        · by_cases hy:0≤y
          · have HE2:Hid (R=false):=by unfold Hid;rw[hS.out,HSt.out,HC.out,decide_eq_false (show ¬y<0 by omega)];rfl
            have hd:decide (0≤y)=true:=decide_eq_true hy;go_wp2_with fail
            go_quiet (first | (go_at_call 131;refine uF (HKn.out _)) | (go_at_call 90;refine uF (HKp.out _ (by exact HBq.out _))))
            go_wp2_with fail;go_ret;exact⟨zA0 HE2.out.symm,by first | exact HBq.out _ | exact wA (HBq.out _) _⟩
          · have HE2:Hid (R=(zD0 (vL cols) (k+1) (n1-(k+1))&&wher.all yH)):=by unfold Hid;rw[hS.out,HSt.out,HC.out,decide_eq_true (show y<0 by omega)];rfl
            have hd:decide (0≤y)=false:=decide_eq_false hy;go_wp2_with fail
            go_quiet (first | (go_at_call 131;refine uF (HKn.out _)) | (go_at_call 90;refine uF (HKp.out _ (by exact HBq.out _))))
            go_wp2_with fail;go_roundw;case rel=>exact⟨k+1,_,by omega,by go_num,rfl,HE2.out⟩
            case measure=>simp[intOf];omega
      · have HE2:Hid (R=(wher.drop 0).all yH):=by unfold Hid;rw[hS.out,zW0 _ _ _ hlt];rfl
        clear hS HE;go_wp2_with fail;go_loopw [4] (fun i wr=>∃(j:Nat),j≤n2∧i=.int .i64 j∧Below (w.heap.size+1) (w.alloc (.cells #[.string tb,.slice A1 n1 p1,.slice A2 n2 p2,.string od,.bool true,.int .i64 lm] 32)) wr∧Hid (R=(wher.drop j).all yH)) (fun i _=>n2-(intOf i).toNat);case atStart=>exact⟨0,Nat.zero_le _,rfl,wA (Below.refl _ _) _,HE2.out⟩
        case round =>
         obtain⟨j,hj,rfl,hb,hS2⟩:=hrel;have p2':=(Blk.later (heap_alloc_new w _) hb (by omega)).cell;have hz0:w.heap.size<wr.heap.size:=by have:=hb.size;simp at this;omega
         have HB:=zh hb;have HBw:=zh ((Below.new _ _).trans (hb.mono (by omega)));clear hb;by_cases hltj:j<n2
         · obtain⟨b,o,rfl,hb,hcell⟩:=(HS2.out.later HBw.out).2 (by omega);obtain⟨c0,c1,c2,k0,k1',k2',hr⟩:=hcell j hltj;clear hcell;have hl:j<wher.length:=by rw[HS2.out.1];exact hltj
           have HSt:=zh (zCf yH wher j hl);have hsm:=HZ2.out _ (uB wher j hl);have HC:Hid (yH (wher.getD j default)=(xB (wher.getD j default).col&&(inB (wher.getD j default).op 1 4&&zAw (wher.getD j default).val))):=rfl;clear hl;generalize wher.getD j default=f at *;obtain⟨e0,e1,e2⟩:=hr;subst e0 e1 e2;have HKa:=zh (fun W=>xF f.col W hsm.1);have HKb:=zh (fun W=>zCp f.op 1 4 W);have HKc:=zh (fun W=>zBr f.val W hsm.2);clear hsm;generalize yH f=X at *;generalize xB f.col=y0 at *;generalize inB f.op 1 4=y1 at *;generalize zAw f.val=y2 at *;generalize f.col=cc at *;generalize f.op=co at *;generalize f.val=cv at *;have HBn:=zh (fun o=>HBw.out.later (Below.new wr o));go_wp2_with fail;refine(HKa.out _).mono ?_;rintro e w1 ⟨rfl,rfl⟩;cases y0
           · have HE3:Hid (R=false):=by unfold Hid;rw[hS2.out,HSt.out,HC.out];rfl
             go_wp2_with fail;go_ret;exact⟨zA0 HE3.out.symm,HBn.out _⟩
           go_wp2_with fail;refine(HKb.out _).mono ?_;rintro e w1 ⟨rfl,rfl⟩;cases y1
           · have HE3:Hid (R=false):=by unfold Hid;rw[hS2.out,HSt.out,HC.out];rfl
             go_wp2_with fail;go_ret;exact⟨zA0 HE3.out.symm,HBn.out _⟩
           go_wp2_with fail;refine(HKc.out _).mono ?_;rintro e w1 ⟨rfl,rfl⟩;cases y2
           · have HE3:Hid (R=false):=by unfold Hid;rw[hS2.out,HSt.out,HC.out];rfl
             go_wp2_with fail;go_ret;exact⟨zA0 HE3.out.symm,HBn.out _⟩
           have HE3:Hid (R=(wher.drop (j+1)).all yH):=by unfold Hid;rw[hS2.out,HSt.out,HC.out];rfl
           have HB1:=zh (fun o=>HB.out.trans ((Below.new wr o).mono (by omega)));go_wp2_with fail;go_roundw;case rel=>exact⟨j+1,by omega,by go_num,HB1.out _,HE3.out⟩
           case measure=>simp[intOf];omega
         · have HE3:Hid (R=true):=by unfold Hid;rw[hS2.out,List.drop_of_length_le (by rw[HS2.out.1];omega)];rfl
           go_wp2_with fail;go_ret;exact⟨zA0 HE3.out.symm,HBw.out⟩
end Go.Proofs.YtfpcjhajjejpdaaGreatDoor
