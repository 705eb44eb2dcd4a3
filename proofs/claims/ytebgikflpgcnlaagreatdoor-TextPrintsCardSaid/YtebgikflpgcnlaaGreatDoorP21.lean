/- Part 21 of the proof: RefE RefF RefG -/
import Derived.Test.YtebgikflpgcnlaaGreatDoorP13
import Derived.Test.YtebgikflpgcnlaaGreatDoorP20
namespace Go.Proofs.YtebgikflpgcnlaaGreatDoor
set_option linter.unusedVariables false
set_option linter.unusedSimpArgs false
set_option maxRecDepth 100000
set_option maxHeartbeats 4000000
open Go.RowKit Tryz
theorem SS (s:ByteArray) (k:Nat) (hk:k≤256) (hs:s.size≤140737488351232) (w:World):
 Calls prog 205 #[.string s,.int .i64 (k:Int)] w fun e w'=>w=w'∧e= .returned (.int .i64 (Dh s k)):=by
 have hsz:s.data.toList.length=s.size:=by simp
 by_cases hle:s.size≤k
 ·have hd:decide (k<s.size)=false:=decide_eq_false (by omega)
  have hdi:decide ((k:Int)<(s.size:Int))=false:=decide_eq_false (by omega)
  have hl:JK k s.data.toList=Sk s:=by
   unfold Sk JK
   rw [decide_eq_true (by omega),decide_eq_true (by omega)]
  cases hb:Sk s with
  | true=>
   have HE:Hid (Dh s k=0):=AA (by unfold Dh;rw [D_ (decide_eq_true (by omega)),D_ hb];rfl)
   have HL:Hid (∀W,Calls prog 135 #[.string s,.int .i64 k] W fun e w'=>W=w'∧e= .returned (.bool true)):=AA (fun W=>by have:=Og s k hs W;rw [hl,hb] at this;exact this)
   clear hb hl hsz hle
   go_enter func205,ntmps205
   go_wp2_with fail
   refine(HL.out w).mono ?_
   rintro e w' ⟨rfl,rfl⟩
   go_wp2_with fail
   go_ret
   exact⟨rfl,by rw [HE.out];rfl⟩
  | false=>
   have HE:Hid (Dh s k=15):=AA (by unfold Dh;rw [D_ (decide_eq_true (by omega)),ET hb];rfl)
   have HL:Hid (∀W,Calls prog 135 #[.string s,.int .i64 k] W fun e w'=>W=w'∧e= .returned (.bool false)):=AA (fun W=>by have:=Og s k hs W;rw [hl,hb] at this;exact this)
   clear hb hl hsz hle
   go_enter func205,ntmps205
   go_wp2_with fail
   refine(HL.out w).mono ?_
   rintro e w' ⟨rfl,rfl⟩
   go_wp2_with fail
   go_ret
   exact⟨rfl,by rw [HE.out];rfl⟩
 ·have hd:decide (k<s.size)=true:=decide_eq_true (by omega)
  have hdi:decide ((k:Int)<(s.size:Int))=true:=decide_eq_true (by omega)
  have HE:Hid (Dh s k=13):=AA (by unfold Dh;rw [ET (decide_eq_false (by omega))];rfl)
  clear hsz hle
  go_enter func205,ntmps205
  go_wp2_with fail
  go_ret
  exact⟨rfl,by rw [HE.out];rfl⟩
theorem eX {w w1:World} {v1 v2 v3 v4 v5 v6:Value} {a b:Int} (h:w.alloc (.cells #[v1,v2,v3,.int .i64 a,.int .i64 b,v4,v5,v6] 29)=w1):Below w.heap.size w w1∧AV w1 w.heap.size 29 [v1,v2,v3,.int .i64 a,.int .i64 b,v4,v5,v6]:=by
 have hb:=AV.new w 29 [v1,v2,v3,.int .i64 a,.int .i64 b,v4,v5,v6]
 change AV (w.alloc (.cells #[v1,v2,v3,.int .i64 a,.int .i64 b,v4,v5,v6] 29)) _ _ _ at hb
 rw [h] at hb
 exact⟨by rw [←h];exact(Below.refl _ _).alloc (Nat.le_refl _) _,hb⟩
theorem ABK {W:World} {lo hi:Nat} {A:Option Addr} {n c:Nat} {xs:List Int} (h:(Rd.i64.sl false).R W lo hi [.slice A n c] xs) {k:Nat} {t:Int} (hk:xs[k]?=some t): ∃b o,A=some ⟨b,o,none⟩∧b<hi∧W.cell? ⟨b,o+k,none⟩=some (.int .i64 t)∧Rd.Ej t:=by
 obtain⟨b,o,e,_,hb,cs,hc,hr⟩:=NW h hk
 obtain⟨rfl,h6⟩:=hr
 exact⟨b,o,e,hb,by have:=hc 0 _ rfl;simpa [Rd.i64,Rd.one] using this,h6⟩
def kZ (l:List Dl) (x:Dl) (n:Nat):Prop:= ∀(j:Nat) (y:Dl),j<n→l[j]?=some y→y≠x
theorem kZ.next {l:List Dl} {x y:Dl} {n:Nat} (h:kZ l x n) (hy:l[n]?=some y) (hne:y≠x):kZ l x (n+1):=fun j z hj hz=>by
 by_cases e:j=n
 ·subst e;rw [hy] at hz;injection hz with hz;subst hz;exact hne
 ·exact h j z (by omega) hz
def Qa (n:Nat) (f:Nat→Int) (k:Nat):Prop:=k≤n∧Aq k f=0
theorem Qa.hit {n:Nat} {f:Nat→Int} {k:Nat} (h:Qa n f k) (hk:k<n) (he:f k≠0):Aq n f=f k:=Ij h.2 he n hk
theorem Qa.step {n:Nat} {f:Nat→Int} {k:Nat} (h:Qa n f k) (hk:k<n) (he:f k=0):Qa n f (k+1):=⟨hk,Ib h.2 he⟩
theorem Yd (cs:List Value) (hi:Nat) (m:AQ) (w:World) (h:IZ.R w 0 hi cs m) (hhi:hi≤w.heap.size):
 Calls prog 173 #[.agg cs.toArray] w fun e w'=>Below w.heap.size w w'∧e= .returned (.int .i64 (EO (El m) (FY m))):=by
 obtain⟨v1,v2,v3,v4,v5,v6,rfl,h0,h1,_⟩:=DF.1 h
 obtain⟨A0,c0,rfl⟩:=AU h0
 obtain⟨A1,c1,rfl⟩:=AU h1
 have H0:=AA h0;have H1:=AA h1;have OG:=AA hhi
 clear h h0 h1 hhi
 go_enter func173,ntmps173
 go_upto_region 1 with fail
 generalize hw1:w.alloc (.cells #[.slice A0 m.types.length c0,.slice A1 m.hosts.length c1,v3,.int .i64 m.first,.int .i64 m.most,v4,v5,v6] 29)=w1
 obtain⟨hb1,hx1⟩:=eX hw1
 have HB1:=AA hb1;have Uk:=AA hx1
 clear hw1 hb1 hx1
 have q0:=Uk.out.q 0 rfl
 by_cases hn:m.types.length≤64
 ·have hd:decide (64<m.types.length)=false:=decide_eq_false (by omega)
  have hdi:decide ((64:Int)<(m.types.length:Int))=false:=decide_eq_false (by omega)
  have ZK:Hid (El m=Aq m.types.length (fJ m.types)):=AA (by unfold El;rw [D_ (decide_eq_true hn),AY rfl])
  go_wp2_with fail
  go_loopw [3,4,5] (fun i _ _ wr=> ∃k:Nat,i= .int .i64 k∧Qa m.types.length (fJ m.types) k∧Below w1.heap.size w1 wr) (fun i _ _ _=>m.types.length-(intOf i).toNat)
  case atStart=>exact⟨0,rfl,⟨Nat.zero_le _,rfl⟩,Below.refl _ _⟩
  case round=>
   obtain⟨k,rfl,hg,hbr⟩:=hrel
   have HG:=AA hg
   have xR:=AA hbr
   have Eo:Hid (Below w.heap.size w wr):=AA (HB1.out.trans (hbr.mono HB1.out.size))
   have Ye:=AA (Uk.out.below hbr Uk.out.lt)
   have q0:=Ye.out.q 0 rfl
   have q1:=Ye.out.q 1 rfl
   clear hg hbr
   by_cases hlt:k<m.types.length
   ·obtain⟨x,hx⟩: ∃x,m.types[k]?=some x:=⟨_,List.getElem?_eq_getElem hlt⟩
    obtain⟨b,o,eA,_,hbb,d0,d1,sp,sr⟩:=Ii H0.out hx
    subst eA
    have lb:b<w.heap.size:=Nat.lt_of_lt_of_le hbb OG.out
    have e0:=(Eo.out.cell lb (p:=⟨b,o+k*2,none⟩)).trans d0
    have e1:=(Eo.out.cell lb (p:=⟨b,o+k*2+1,none⟩)).trans d1
    have hk0:(0:Int)≤k:=by omega
    have hk1:(k:Int)<m.types.length:=by omega
    have HXX:=AA hx
    have oD:Hid (fJ m.types k=EO (Dh x.p 8) (EO (Dh x.r 8) (Ae (!(m.types.take k).any (fun y=>PL y x)) 16))):=AA (by unfold fJ;rw [hx])
    obtain⟨ep,hep⟩: ∃ep,Dh x.p 8=ep:=⟨_,rfl⟩
    obtain⟨er,her⟩: ∃er,Dh x.r 8=er:=⟨_,rfl⟩
    have HP:Hid (∀W,Calls prog 205 #[.string x.p,.int .i64 8] W fun e w'=>W=w'∧e= .returned (.int .i64 ep)):=AA (fun W=>hep▸SS x.p 8 (by decide) sp W)
    have HR:Hid (∀W,Calls prog 205 #[.string x.r,.int .i64 8] W fun e w'=>W=w'∧e= .returned (.int .i64 er)):=AA (fun W=>her▸SS x.r 8 (by decide) sr W)
    rw [hep,her] at oD
    clear hx d0 d1 sp sr hbb hep her
    by_cases hp0:ep=0
    case neg=>
     have qp:(ep !=0)=true:=by simpa using hp0
     have HE:Hid (EO (El m) (FY m)=ep):=AA (by
      rw [ZK.out,HG.out.hit hlt (by rw [oD.out,Dk hp0];exact hp0),oD.out,Dk hp0,Dk hp0])
     clear hp0
     go_wp2_with fail
     refine(HP.out wr).mono ?_
     rintro e w' ⟨rfl,rfl⟩
     go_wp2_with fail
     go_ret
     exact⟨Eo.out,by rw [HE.out];rfl⟩
    subst hp0
    by_cases hr0:er=0
    case neg=>
     have qr:(er !=0)=true:=by simpa using hr0
     have HE:Hid (EO (El m) (FY m)=er):=AA (by
      rw [ZK.out,HG.out.hit hlt (by rw [oD.out,AY rfl,Dk hr0];exact hr0),oD.out,AY rfl,Dk hr0,Dk hr0])
     clear hr0
     go_wp2_with fail
     refine(HP.out wr).mono ?_
     rintro e w' ⟨rfl,rfl⟩
     go_wp2_with fail
     refine(HR.out wr).mono ?_
     rintro e w' ⟨rfl,rfl⟩
     go_wp2_with fail
     go_ret
     exact⟨Eo.out,by rw [HE.out];rfl⟩
    subst hr0
    have ACk:=AA (oD.out.trans ((AY rfl).trans (AY rfl)))
    clear oD
    go_wp2_with fail
    refine(HP.out wr).mono ?_
    rintro e w' ⟨rfl,rfl⟩
    go_wp2_with fail
    refine(HR.out wr).mono ?_
    rintro e w' ⟨rfl,rfl⟩
    go_wp2_with fail
    clear q0 q1 e0 e1
    obtain⟨wo,rfl⟩: ∃wo:World,wo=wr:=⟨_,rfl⟩
    go_loopw [5] (fun i wv=> ∃j:Nat,j≤k∧i= .int .i64 j∧kZ m.types x j∧Below wo.heap.size wo wv) (fun i _=>k-(intOf i).toNat)
    case atStart=>exact⟨0,Nat.zero_le _,rfl,fun j y hj=>absurd hj (Nat.not_lt_zero _),Below.refl _ _⟩
    case round=>
     obtain⟨j,hj,rfl,hns,hbv⟩:=hrel
     have HNS:=AA hns
     have xS:=AA hbv
     have Yf:Hid (Below w.heap.size w wr):=AA (Eo.out.trans (hbv.mono Eo.out.size))
     have HXV:=AA (Ye.out.below hbv Ye.out.lt)
     have q0:=HXV.out.q 0 rfl
     have vw:Hid (Below w1.heap.size w1 wr):=AA (xR.out.trans (hbv.mono xR.out.size))
     clear hns hbv
     by_cases hjk:j<k
     ·obtain⟨z,hz⟩: ∃z,m.types[j]?=some z:=⟨_,List.getElem?_eq_getElem (by omega)⟩
      obtain⟨b',o',eB,_,_,d0,d1,_,_⟩:=Ii H0.out hz
      injection eB with eB;injection eB with eB1 eB2 _
      subst eB1 eB2
      obtain⟨b',o',eB,_,_,d2,d3,_,_⟩:=Ii H0.out HXX.out
      injection eB with eB;injection eB with eB1 eB2 _
      subst eB1 eB2
      have e0:=(Yf.out.cell lb (p:=⟨b,o+j*2,none⟩)).trans d0
      have e1:=(Yf.out.cell lb (p:=⟨b,o+j*2+1,none⟩)).trans d1
      have e2:=(Yf.out.cell lb (p:=⟨b,o+k*2,none⟩)).trans d2
      have e3:=(Yf.out.cell lb (p:=⟨b,o+k*2+1,none⟩)).trans d3
      have hj0:(0:Int)≤j:=by omega
      have hj1:(j:Int)<m.types.length:=by omega
      have hjk1:(j:Int)<k:=by omega
      have HZ:=AA hz
      clear d0 d1 d2 d3 hz
      by_cases hzp:z.p=x.p
      case neg=>
       have hne:=Qv hzp
       have Ul:=AA (HNS.out.next HZ.out (fun e=>hzp (by rw [e])))
       clear hzp
       go_wp2_with fail
       go_quiet (fail)
       go_wp2_with fail
       exact⟨⟨j+1,by omega,by go_num,Ul.out,below_drewN xS.out _⟩,by simp [intOf];omega⟩
      by_cases hzr:z.r=x.r
      case neg=>
       have heq:(z.p.toList==x.p.toList)=true:=by rw [hzp];simp
       have hne:=Qv hzr
       have Ul:=AA (HNS.out.next HZ.out (fun e=>hzr (by rw [e])))
       clear hzp hzr
       go_wp2_with fail
       go_quiet (fail)
       go_wp2_with fail
       exact⟨⟨j+1,by omega,by go_num,Ul.out,below_drewN xS.out _⟩,by simp [intOf];omega⟩
      have heq:(z.p.toList==x.p.toList)=true:=by rw [hzp];simp
      have heq2:(z.r.toList==x.r.toList)=true:=by rw [hzr];simp
      have HE:Hid (EO (El m) (FY m)=16):=AA (by
       have hzx:z=x:=by cases z;cases x;cases hzp;cases hzr;rfl
       have ha:Ae (!(m.types.take k).any (fun y=>PL y x)) 16=16:=by rw [kL (by rw [HZ.out,hzx]) hjk];rfl
       rw [ZK.out,HG.out.hit hlt (by rw [ACk.out,ha];decide),ACk.out,ha];rfl)
      clear hzp hzr
      go_wp2_with fail
      go_quiet (fail)
      go_wp2_with fail
      go_ret
      exact⟨below_drewN Yf.out _,by rw [HE.out];rfl⟩
     ·obtain rfl:k=j:=by omega
      have HT0:Hid (fJ m.types k=0):=AA (by rw [ACk.out,kK HNS.out];rfl)
      go_wp2_with fail
      exact⟨⟨k+1,by go_num,HG.out.step hlt HT0.out,vw.out⟩,by simp [intOf];omega⟩
   ·have HT0:Hid (El m=0):=AA (by
     have:k=m.types.length:=by have:=HG.out.1;omega
     rw [ZK.out,←this];exact HG.out.2)
    by_cases hnh:m.hosts.length≤32
    case neg=>
     have hd:decide (32<m.hosts.length)=true:=decide_eq_true (by omega)
     have hdi:decide ((32:Int)<(m.hosts.length:Int))=true:=decide_eq_true (by omega)
     have HE:Hid (EO (El m) (FY m)=20):=AA (by rw [HT0.out,AY rfl];unfold FY;rw [ET (decide_eq_false hnh)];rfl)
     clear hnh
     go_wp2_with fail
     go_ret
     exact⟨Eo.out,by rw [HE.out];rfl⟩
    have hd:decide (32<m.hosts.length)=false:=decide_eq_false (by omega)
    have hdi:decide ((32:Int)<(m.hosts.length:Int))=false:=decide_eq_false (by omega)
    have HHE:Hid (EO (El m) (FY m)=Aq m.hosts.length (LD m)):=AA (by rw [HT0.out,AY rfl];unfold FY;rw [D_ (decide_eq_true hnh),AY rfl])
    go_wp2_with fail
    clear q0 q1
    obtain⟨wo,rfl⟩: ∃wo:World,wo=wr:=⟨_,rfl⟩
    go_loopw [6] (fun i wv=> ∃j:Nat,i= .int .i64 j∧Qa m.hosts.length (LD m) j∧Below wo.heap.size wo wv) (fun i _=>m.hosts.length-(intOf i).toNat)
    case atStart=>exact⟨0,rfl,⟨Nat.zero_le _,rfl⟩,Below.refl _ _⟩
    case round=>
     obtain⟨j,rfl,hgh,hbv⟩:=hrel
     have HGH:=AA hgh
     have xS:=AA hbv
     have Yf:Hid (Below w.heap.size w wr):=AA (Eo.out.trans (hbv.mono Eo.out.size))
     have HXV:=AA (Ye.out.below hbv Ye.out.lt)
     have q0:=HXV.out.q 0 rfl
     have q1:=HXV.out.q 1 rfl
     clear hgh hbv
     by_cases hjl:j<m.hosts.length
     ·obtain⟨t,ht⟩: ∃t,m.hosts[j]?=some t:=⟨_,List.getElem?_eq_getElem hjl⟩
      obtain⟨b,o,eA,hbb,d0,Lp⟩:=ABK H1.out ht
      subst eA
      have e0:=(Yf.out.cell (Nat.lt_of_lt_of_le hbb OG.out) (p:=⟨b,o+j,none⟩)).trans d0
      have hj0:(0:Int)≤j:=by omega
      have hj1:(j:Int)<m.hosts.length:=by omega
      have HHT:Hid (LD m j=Ae (decide (0≤t∧t<m.types.length)) 30):=AA (by unfold LD;rw [ht])
      unfold Rd.Ej at Lp
      clear d0 ht
      by_cases h0:t<0
      case pos=>
       have q2:decide (t<0)=true:=decide_eq_true h0
       have HE:Hid (EO (El m) (FY m)=30):=AA (by
        have ha:LD m j=30:=by rw [HHT.out,ET (decide_eq_false (by omega))]
        rw [HHE.out,HGH.out.hit hjl (by rw [ha];decide),ha])
       clear h0
       go_wp2_with fail
       go_quiet (fail)
       go_wp2_with fail
       go_ret
       exact⟨below_drewN Yf.out _,by rw [HE.out];rfl⟩
      have q2:decide (t<0)=false:=decide_eq_false h0
      by_cases h1:(m.types.length:Int)≤t
      case pos=>
       have q3:decide ((m.types.length:Int)≤t)=true:=decide_eq_true h1
       have HE:Hid (EO (El m) (FY m)=30):=AA (by
        have ha:LD m j=30:=by rw [HHT.out,ET (decide_eq_false (by omega))]
        rw [HHE.out,HGH.out.hit hjl (by rw [ha];decide),ha])
       clear h0 h1
       go_wp2_with fail
       go_quiet (fail)
       go_wp2_with fail
       go_ret
       exact⟨below_drewN Yf.out _,by rw [HE.out];rfl⟩
      have q3:decide ((m.types.length:Int)≤t)=false:=decide_eq_false h1
      have HH0:Hid (LD m j=0):=AA (by rw [HHT.out,D_ (decide_eq_true (by omega))])
      clear h0 h1
      go_wp2_with fail
      go_quiet (fail)
      go_wp2_with fail
      exact⟨⟨j+1,by go_num,HGH.out.step hjl HH0.out,below_drewN xS.out _⟩,by simp [intOf];omega⟩
     ·have HE:Hid (EO (El m) (FY m)=0):=AA (by
       have:j=m.hosts.length:=by have:=HGH.out.1;omega
       rw [HHE.out,←this];exact HGH.out.2)
      go_wp2_with fail
      go_ret
      exact⟨Yf.out,by rw [HE.out];rfl⟩
 ·have hd:decide (64<m.types.length)=true:=decide_eq_true (by omega)
  have hdi:decide ((64:Int)<(m.types.length:Int))=true:=decide_eq_true (by omega)
  have ZK:Hid (EO (El m) (FY m)=20):=AA (by unfold El;rw [ET (decide_eq_false hn)];rfl)
  clear hn
  go_wp2_with fail
  go_ret
  exact⟨HB1.out,by rw [ZK.out];rfl⟩
theorem Vj (cs:List Value) (hi:Nat) (m:AQ) (w:World) (h:IZ.R w 0 hi cs m) (hhi:hi≤w.heap.size):
 Calls prog 174 #[.agg cs.toArray] w fun e w'=>Below w.heap.size w w'∧e= .returned (.int .i64 (EO (JN m) (KR m))):=by
 obtain⟨v1,v2,v3,v4,v5,v6,rfl,_,_,h2,hf3,Y1,_⟩:=DF.1 h
 obtain⟨A2,c2,rfl⟩:=AU h2
 have H2:=AA h2;have OG:=AA hhi
 unfold Rd.Ej at hf3 Y1
 clear h h2 hhi
 go_enter func174,ntmps174
 go_upto_region 1 with fail
 generalize hw1:w.alloc (.cells #[v1,v2,.slice A2 m.globs.length c2,.int .i64 m.first,.int .i64 m.most,v4,v5,v6] 29)=w1
 obtain⟨hb1,hx1⟩:=eX hw1
 have HB1:=AA hb1;have Uk:=AA hx1
 clear hw1 hb1 hx1
 have q2:=Uk.out.q 2 rfl
 by_cases hn:m.globs.length≤64
 case neg=>
  have hd:decide (64<m.globs.length)=true:=decide_eq_true (by omega)
  have hdi:decide ((64:Int)<(m.globs.length:Int))=true:=decide_eq_true (by omega)
  have HE:Hid (EO (JN m) (KR m)=20):=AA (by unfold JN;rw [ET (decide_eq_false hn)];rfl)
  clear hn
  go_wp2_with fail
  go_ret
  exact⟨HB1.out,by rw [HE.out];rfl⟩
 have hd:decide (64<m.globs.length)=false:=decide_eq_false (by omega)
 have hdi:decide ((64:Int)<(m.globs.length:Int))=false:=decide_eq_false (by omega)
 have ZK:Hid (JN m=Aq m.globs.length (Ms m)):=AA (by unfold JN;rw [D_ (decide_eq_true hn),AY rfl])
 go_wp2_with fail
 clear q2
 go_loopw [3] (fun i wr=> ∃k:Nat,i= .int .i64 k∧Qa m.globs.length (Ms m) k∧Below w1.heap.size w1 wr) (fun i _=>m.globs.length-(intOf i).toNat)
 case atStart=>exact⟨0,rfl,⟨Nat.zero_le _,rfl⟩,Below.refl _ _⟩
 case round=>
  obtain⟨k,rfl,hg,hbr⟩:=hrel
  have HG:=AA hg
  have xR:=AA hbr
  have Eo:Hid (Below w.heap.size w wr):=AA (HB1.out.trans (hbr.mono HB1.out.size))
  have Ye:=AA (Uk.out.below hbr Uk.out.lt)
  have q2:=Ye.out.q 2 rfl
  clear hg hbr
  by_cases hlt:k<m.globs.length
  ·obtain⟨x,hx⟩: ∃x,m.globs[k]?=some x:=⟨_,List.getElem?_eq_getElem hlt⟩
   obtain⟨b,o,eA,_,hbb,d0,d1,d2,b64⟩:=K_ H2.out hx
   subst eA
   have lb:b<w.heap.size:=Nat.lt_of_lt_of_le hbb OG.out
   have e0:=(Eo.out.cell lb (p:=⟨b,o+k*3,none⟩)).trans d0
   have e2:=(Eo.out.cell lb (p:=⟨b,o+k*3+2,none⟩)).trans d2
   have hk0:(0:Int)≤k:=by omega
   have hk1:(k:Int)<m.globs.length:=by omega
   have xP:Hid (Ms m k=EO (Ae (Qh x.l.toNat) 15) (Ae (JL x.v x.l.toNat) 17)):=AA (by unfold Ms;rw [hx])
   clear hx d0 d1 d2 b64 hbb
   cases hl:Qh x.l.toNat with
   | false=>
    have HL:Hid (∀W,Calls prog 181 #[.int .u8 (x.l.toNat:Int)] W fun e w'=>W=w'∧e= .returned (.bool false)):=AA (fun W=>hl▸Ry x.l.toNat x.l.toNat_lt W)
    have HE:Hid (EO (JN m) (KR m)=15):=AA (by
     have ha:Ms m k=15:=by rw [xP.out,hl];rfl
     rw [ZK.out,HG.out.hit hlt (by rw [ha];decide),ha];rfl)
    clear hl
    go_wp2_with fail
    refine(HL.out wr).mono ?_
    rintro e w' ⟨rfl,rfl⟩
    go_wp2_with fail
    go_ret
    exact⟨Eo.out,by rw [HE.out];rfl⟩
   | true=>
    have HL:Hid (∀W,Calls prog 181 #[.int .u8 (x.l.toNat:Int)] W fun e w'=>W=w'∧e= .returned (.bool true)):=AA (fun W=>hl▸Ry x.l.toNat x.l.toNat_lt W)
    cases hf:JL x.v x.l.toNat with
    | false=>
     have HF:Hid (∀W,Calls prog 206 #[.int .u64 (x.v:Int),.int .u8 (x.l.toNat:Int)] W fun e w'=>W=w'∧e= .returned (.bool false)):=AA (fun W=>hf▸ZJ x.v x.l.toNat x.l.toNat_lt W)
     have HE:Hid (EO (JN m) (KR m)=17):=AA (by
      have ha:Ms m k=17:=by rw [xP.out,hl,hf];rfl
      rw [ZK.out,HG.out.hit hlt (by rw [ha];decide),ha];rfl)
     clear hl hf
     go_wp2_with fail
     refine(HL.out wr).mono ?_
     rintro e w' ⟨rfl,rfl⟩
     go_wp2_with fail
     go_quiet ((go_at_call 206;first | exact Sg (HF.out _) | exact Mq (HF.out _)))
     go_wp2_with fail
     go_ret
     exact⟨below_drewN Eo.out _,by rw [HE.out];rfl⟩
    | true=>
     have HF:Hid (∀W,Calls prog 206 #[.int .u64 (x.v:Int),.int .u8 (x.l.toNat:Int)] W fun e w'=>W=w'∧e= .returned (.bool true)):=AA (fun W=>hf▸ZJ x.v x.l.toNat x.l.toNat_lt W)
     have HG0:Hid (Ms m k=0):=AA (by rw [xP.out,hl,hf];rfl)
     clear hl hf
     go_wp2_with fail
     refine(HL.out wr).mono ?_
     rintro e w' ⟨rfl,rfl⟩
     go_wp2_with fail
     go_quiet ((go_at_call 206;first | exact Sg (HF.out _) | exact Mq (HF.out _)))
     go_wp2_with fail
     exact⟨⟨k+1,by go_num,HG.out.step hlt HG0.out,below_drewN xR.out _⟩,by simp [intOf];omega⟩
  ·have dn:Hid (EO (JN m) (KR m)=KR m):=AA (by
    have:k=m.globs.length:=by have:=HG.out.1;omega
    rw [ZK.out,←this,HG.out.2,AY rfl])
   have q3:=Ye.out.q 3 rfl
   have q4:=Ye.out.q 4 rfl
   have key:(KR m=17∧(decide (m.first<0)=true∨(decide (m.first<0)=false∧decide (64<m.first)=true)∨(decide (m.first<0)=false∧decide (64<m.first)=false∧decide (m.most<m.first)=true)∨(decide (m.first<0)=false∧decide (64<m.first)=false∧decide (m.most<m.first)=false∧decide (64<m.most)=true)))∨
    (KR m=0∧decide (m.first<0)=false∧decide (64<m.first)=false∧decide (m.most<m.first)=false∧decide (64<m.most)=false):=by
    unfold KR
    by_cases hp:0≤m.first∧m.first≤64∧m.first≤m.most∧m.most≤64
    ·refine .inr ⟨D_ (decide_eq_true hp),decide_eq_false (by omega),decide_eq_false (by omega),decide_eq_false (by omega),decide_eq_false (by omega)⟩
    ·refine .inl ⟨ET (decide_eq_false hp),?_⟩
     simp only [decide_eq_true_eq,decide_eq_false_iff_not]
     omega
   rcases key with⟨hp,k1 | ⟨k1,k2⟩ | ⟨k1,k2,k3⟩ | ⟨k1,k2,k3,k4⟩⟩ | ⟨hp,k1,k2,k3,k4⟩
   all_goals
    have HP:=AA hp
    clear hp
    go_wp2_with fail
    go_ret
    exact⟨Eo.out,by rw [dn.out,HP.out];rfl⟩
theorem TW (cs:List Value) (hi:Nat) (m:AQ) (w:World) (h:IZ.R w 0 hi cs m) (hhi:hi≤w.heap.size) (hty: ∀t∈m.types,t.p.size≤8):
 Calls prog 175 #[.agg cs.toArray] w fun e w'=>Below w.heap.size w w'∧e= .returned (.int .i64 (N9 m)):=by
 obtain⟨v1,v2,v3,v4,v5,v6,rfl,h0,_,_,_,_,h5,_⟩:=DF.1 h
 obtain⟨A0,c0,rfl⟩:=AU h0
 obtain⟨A5,c5,rfl⟩:=AU h5
 have H0:=AA h0;have H5:=AA h5;have OG:=AA hhi;have oD:=AA hty
 clear h h0 h5 hhi hty
 go_enter func175,ntmps175
 go_upto_region 1 with fail
 generalize hw1:w.alloc (.cells #[.slice A0 m.types.length c0,v2,v3,.int .i64 m.first,.int .i64 m.most,.slice A5 m.fns.length c5,v5,v6] 29)=w1
 obtain⟨hb1,hx1⟩:=eX hw1
 have HB1:=AA hb1;have Uk:=AA hx1
 clear hw1 hb1 hx1
 have q5:=Uk.out.q 5 rfl
 by_cases hn:m.fns.length≤128
 case neg=>
  have hd:decide (128<m.fns.length)=true:=decide_eq_true (by omega)
  have hdi:decide ((128:Int)<(m.fns.length:Int))=true:=decide_eq_true (by omega)
  have HE:Hid (N9 m=20):=AA (by unfold N9;rw [ET (decide_eq_false hn)];rfl)
  clear hn
  go_wp2_with fail
  go_ret
  exact⟨HB1.out,by rw [HE.out];rfl⟩
 have hd:decide (128<m.fns.length)=false:=decide_eq_false (by omega)
 have hdi:decide ((128:Int)<(m.fns.length:Int))=false:=decide_eq_false (by omega)
 have ZK:Hid (N9 m=Aq m.fns.length (YK m)):=AA (by unfold N9;rw [D_ (decide_eq_true hn),AY rfl])
 go_wp2_with fail
 clear q5
 go_loopw [3,4,5,6,7] (fun al i _ _ _ wr=> ∃k:Nat,i= .int .i64 k∧al= .int .i64 (JM m k:Nat)∧JM m k≤16384∧Qa m.fns.length (YK m) k∧Below w1.heap.size w1 wr) (fun _ i _ _ _ _=>m.fns.length-(intOf i).toNat)
 case atStart=>exact⟨0,rfl,rfl,Nat.zero_le _,⟨Nat.zero_le _,rfl⟩,Below.refl _ _⟩
 case round=>
  obtain⟨k,rfl,rfl,hal,hg,hbr⟩:=hrel
  have HG:=AA hg
  have xR:=AA hbr
  have Eo:Hid (Below w.heap.size w wr):=AA (HB1.out.trans (hbr.mono HB1.out.size))
  have Ye:=AA (Uk.out.below hbr Uk.out.lt)
  have q5:=Ye.out.q 5 rfl
  clear hg hbr
  by_cases hlt:k<m.fns.length
  case neg=>
   have HE:Hid (N9 m=0):=AA (by
    have:k=m.fns.length:=by have:=HG.out.1;omega
    rw [ZK.out,←this];exact HG.out.2)
   go_wp2_with fail
   go_ret
   exact⟨Eo.out,by rw [HE.out];rfl⟩
  obtain⟨x,hx⟩: ∃x,m.fns[k]?=some x:=⟨_,List.getElem?_eq_getElem hlt⟩
  obtain⟨b,o,iR,oI,eA,_,hbb,d0,d1,d2,t63,sl,hcd⟩:=Oy H5.out hx
  subst eA
  have lb:b<w.heap.size:=Nat.lt_of_lt_of_le hbb OG.out
  have HCD:=AA hcd
  have e0:=(Eo.out.cell lb (p:=⟨b,o+k*3,none⟩)).trans d0
  have e1:=(Eo.out.cell lb (p:=⟨b,o+k*3+1,none⟩)).trans d1
  have e2:=(Eo.out.cell lb (p:=⟨b,o+k*3+2,none⟩)).trans d2
  have hk0:(0:Int)≤k:=by omega
  have hk1:(k:Int)<m.fns.length:=by omega
  have qF:Hid (YK m k=EO (Ae (decide (0≤x.t∧x.t<m.types.length)) 30) (EO (Dh x.loc (64-Qn m x.t)) (EO (Ae (decide (x.code.length≤2048)) 20) (EO (Ae (decide (JM m (k+1)≤16384)) 20) (Aq x.code.length (PN x)))))):=AA (by unfold YK;rw [hx])
  have HAL:Hid (JM m (k+1)=JM m k+x.code.length):=AA (by
   unfold JM
   have:m.fns[k]=x:=by rw [List.getElem?_eq_getElem hlt] at hx;injection hx
   rw [List.take_succ_eq_append_getElem hlt,this];simp [Ak])
  unfold Rd.Ej at t63
  clear hx d0 d1 d2 hbb hcd
  go_upto_region 8 with fail
  generalize hw2:wr.alloc (.cells #[.int .i64 x.t,.string x.loc,.slice iR x.code.length oI] 56)=w2
  have hb2:Below wr.heap.size wr w2:=by rw [←hw2];exact(Below.refl _ _).alloc (Nat.le_refl _) _
  have ZC:Hid (AV w2 wr.heap.size 56 [.int .i64 x.t,.string x.loc,.slice iR x.code.length oI]):=AA (by rw [←hw2];exact AV.new wr 56 _)
  have RG:=AA (Ye.out.below hb2 Ye.out.lt)
  have HB2:Hid (Below w.heap.size w w2):=AA (Eo.out.trans (hb2.mono Eo.out.size))
  have vw:Hid (Below w1.heap.size w1 w2):=AA (xR.out.trans (hb2.mono xR.out.size))
  clear hw2 hb2 e0 e1 e2 q5
  have r0:=ZC.out.q 0 rfl
  have r1:=ZC.out.q 1 rfl
  have r2:=ZC.out.q 2 rfl
  have q0:=RG.out.q 0 rfl
  by_cases hin:0≤x.t∧x.t<m.types.length
  case neg=>
   have HE:Hid (N9 m=30):=AA (by
    have ha:YK m k=30:=by rw [qF.out,ET (decide_eq_false hin)];rfl
    rw [ZK.out,HG.out.hit hlt (by rw [ha];decide),ha])
   have key:decide (x.t<0)=true∨(decide (x.t<0)=false∧decide ((m.types.length:Int)≤x.t)=true):=by
    simp only [decide_eq_true_eq,decide_eq_false_iff_not];omega
   clear hin
   rcases key with k1 | ⟨k1,k2⟩
   all_goals
    go_wp2_with fail
    go_ret
    exact⟨HB2.out,by rw [HE.out];rfl⟩
  obtain⟨t,ht⟩: ∃t:Nat,x.t=(t:Int):=⟨x.t.toNat,by omega⟩
  obtain⟨ty,hty⟩: ∃ty,m.types[t]?=some ty:=⟨_,List.getElem?_eq_getElem (by omega)⟩
  obtain⟨b',o',eA,_,AE8,f0,_,_,_⟩:=Ii H0.out hty
  subst eA
  have g0:=(HB2.out.cell (Nat.lt_of_lt_of_le AE8 OG.out) (p:=⟨b',o'+t*2,none⟩)).trans f0
  have hpl:Qn m x.t=ty.p.size:=by unfold Qn;rw [ht,Int.toNat_natCast,hty]
  have hp8:=oD.out ty (List.mem_of_getElem? hty)
  obtain⟨room,hroom⟩: ∃room,64-ty.p.size=room:=⟨_,rfl⟩
  have hri:(64:Int)-(ty.p.size:Int)=(room:Int):=by omega
  have o_:Hid (YK m k=EO (Dh x.loc room) (EO (Ae (decide (x.code.length≤2048)) 20) (EO (Ae (decide (JM m (k+1)≤16384)) 20) (Aq x.code.length (PN x))))):=AA (by
   rw [qF.out,D_ (decide_eq_true hin),AY rfl,hpl,hri])
  have t0:(0:Int)≤t:=by omega
  have t1:(t:Int)<m.types.length:=by omega
  have k1:decide ((t:Int)<0)=false:=decide_eq_false (by omega)
  have k2:decide ((m.types.length:Int)≤(t:Int))=false:=decide_eq_false (by omega)
  have k2n:decide (m.types.length≤t)=false:=decide_eq_false (by omega)
  have HTN:=AA ht
  rw [ht] at r0
  obtain⟨le,hle⟩: ∃le,Dh x.loc room=le:=⟨_,rfl⟩
  have OY:Hid (∀W,Calls prog 205 #[.string x.loc,.int .i64 ((64:Int)-(ty.p.size:Int))] W fun e w'=>W=w'∧e= .returned (.int .i64 le)):=AA (fun W=>by rw [hri,←hle];exact SS x.loc room (by omega) sl W)
  rw [hle] at o_
  have hwr:IntKind.i64.wrap ((64:Int)-(ty.p.size:Int))=(64:Int)-(ty.p.size:Int):=IntWalk.i64_in _ (by omega)
  clear qF hin ht hty f0 AE8 hpl hri hroom hle sl
  go_wp2_with fail
  go_quiet ((go_at_call 205;first | exact Sg (OY.out _) | exact Mq (OY.out _)))
  clear hwr
  generalize hw3:w2.drewN _=w3
  have HB3:Hid (Below w.heap.size w w3):=AA (by rw [←hw3];exact below_drewN HB2.out _)
  have AAO:Hid (Below w1.heap.size w1 w3):=AA (by rw [←hw3];exact below_drewN vw.out _)
  have HF3:Hid (AV w3 wr.heap.size 56 [.int .i64 t,.string x.loc,.slice iR x.code.length oI]):=AA (by
   rw [←hw3,←HTN.out];exact ZC.out.drewN _)
  clear hw3 r0 r1 r2 q0 g0
  have r2:=HF3.out.q 2 rfl
  by_cases hl0:le=0
  case neg=>
   have ql:(le !=0)=true:=by simpa using hl0
   have HE:Hid (N9 m=le):=AA (by
    have ha:YK m k=le:=by rw [o_.out,Dk hl0]
    rw [ZK.out,HG.out.hit hlt (by rw [ha];exact hl0),ha])
   clear hl0
   go_wp2_with fail
   go_ret
   exact⟨HB3.out,by rw [HE.out];rfl⟩
  subst hl0
  by_cases hc1:x.code.length≤2048
  case neg=>
   have z1:decide (2048<x.code.length)=true:=decide_eq_true (by omega)
   have z1i:decide ((2048:Int)<(x.code.length:Int))=true:=decide_eq_true (by omega)
   have HE:Hid (N9 m=20):=AA (by
    have ha:YK m k=20:=by rw [o_.out,AY rfl,ET (decide_eq_false hc1)];rfl
    rw [ZK.out,HG.out.hit hlt (by rw [ha];decide),ha])
   clear hc1
   go_wp2_with fail
   go_ret
   exact⟨HB3.out,by rw [HE.out];rfl⟩
  have z1:decide (2048<x.code.length)=false:=decide_eq_false (by omega)
  have z1i:decide ((2048:Int)<(x.code.length:Int))=false:=decide_eq_false (by omega)
  by_cases hc2:JM m k+x.code.length≤16384
  case neg=>
   have z2:decide ((16384:Int)<(JM m k:Int)+(x.code.length:Int))=true:=decide_eq_true (by omega)
   have HE:Hid (N9 m=20):=AA (by
    have ha:YK m k=20:=by rw [o_.out,AY rfl,D_ (decide_eq_true hc1),AY rfl,HAL.out,ET (decide_eq_false hc2)];rfl
    rw [ZK.out,HG.out.hit hlt (by rw [ha];decide),ha])
   clear hc2
   go_wp2_with fail
   go_ret
   exact⟨HB3.out,by rw [HE.out];rfl⟩
  have z2:decide ((16384:Int)<(JM m k:Int)+(x.code.length:Int))=false:=decide_eq_false (by omega)
  have AE9:Hid (YK m k=Aq x.code.length (PN x)):=AA (by rw [o_.out,AY rfl,D_ (decide_eq_true hc1),AY rfl,HAL.out,D_ (decide_eq_true hc2),AY rfl])
  clear o_
  go_wp2_with fail
  clear r2 z1 z1i z2
  obtain⟨wo,rfl⟩: ∃wo:World,wo=wr:=⟨_,rfl⟩
  go_loopw [6,7] (fun _ i wv=> ∃j:Nat,i= .int .i64 j∧Qa x.code.length (PN x) j∧Below w3.heap.size w3 wv) (fun _ i _=>x.code.length-(intOf i).toNat)
  case atStart=>exact⟨0,rfl,⟨Nat.zero_le _,rfl⟩,Below.refl _ _⟩
  case round=>
   obtain⟨j,rfl,hgj,hbv⟩:=hrel
   have HGJ:=AA hgj
   have xS:=AA hbv
   have Uz:Hid (Below w.heap.size w wr):=AA (HB3.out.trans (hbv.mono HB3.out.size))
   have zi:=AA (HF3.out.below hbv HF3.out.lt)
   have r2:=zi.out.q 2 rfl
   clear hgj hbv
   by_cases hjl:j<x.code.length
   ·obtain⟨z,hz⟩: ∃z,x.code[j]?=some z:=⟨_,List.getElem?_eq_getElem hjl⟩
    obtain⟨b2,o2,cs2,eC,hb2,i0,i1,i2,hrz⟩: ∃b2 o2 cs2,iR=some ⟨b2,o2,none⟩∧b2<hi∧w.cell? ⟨b2,o2+j*3,none⟩=some (.int .u8 (z.op.toNat:Int))∧w.cell? ⟨b2,o2+j*3+1,none⟩=some (.int .i64 z.a)∧w.cell? ⟨b2,o2+j*3+2,none⟩=some cs2∧I_.R w 0 hi [.int .u8 (z.op.toNat:Int),.int .i64 z.a,cs2] z:=by
     obtain⟨b2,o2,Al,cl,e1,_,h2,h3,h4,h5,h6,h7⟩:=Nf HCD.out hz
     exact⟨b2,o2,_,e1,h2,h3,h4,h5,D9.2 ⟨_,rfl,h6,h7⟩⟩
    subst eC
    have lb2:b2<w.heap.size:=Nat.lt_of_lt_of_le hb2 OG.out
    have e0:=(Uz.out.cell lb2 (p:=⟨b2,o2+j*3,none⟩)).trans i0
    have e1:=(Uz.out.cell lb2 (p:=⟨b2,o2+j*3+1,none⟩)).trans i1
    have e2:=(Uz.out.cell lb2 (p:=⟨b2,o2+j*3+2,none⟩)).trans i2
    have hj0:(0:Int)≤j:=by omega
    have hj1:(j:Int)<x.code.length:=by omega
    obtain⟨ie,hie⟩: ∃ie,Aa z=ie:=⟨_,rfl⟩
    have HCE:Hid (PN x j=ie):=AA (by unfold PN;rw [hz,←hie])
    have HCK:Hid (Calls prog 207 #[.agg #[.int .u8 (z.op.toNat:Int),.int .i64 z.a,cs2]] wr fun e w'=>Below wr.heap.size wr w'∧e= .returned (.int .i64 ie)):=AA (hie▸X5 [.int .u8 (z.op.toNat:Int),.int .i64 z.a,cs2] hi z wr (Rd.below hrz Uz.out OG.out) (Nat.le_trans OG.out Uz.out.size) (fun op W h=>Xz op W h))
    clear hz i0 i1 i2 hrz hie hb2
    go_wp2_with fail
    refine HCK.out.mono ?_
    rintro e w5 ⟨hb5,rfl⟩
    have I8:Hid (Below w3.heap.size w3 w5):=AA (xS.out.trans (hb5.mono xS.out.size))
    have HB5W:Hid (Below w.heap.size w w5):=AA (Uz.out.trans (hb5.mono Uz.out.size))
    clear hb5 e0 e1 e2 r2
    by_cases hi0:ie=0
    ·subst hi0
     go_wp2_with fail
     exact⟨⟨j+1,by go_num,HGJ.out.step hjl HCE.out,I8.out⟩,by simp [intOf];omega⟩
    ·have qi:(ie !=0)=true:=by simpa using hi0
     have HE:Hid (N9 m=ie):=AA (by
      have ha:YK m k=ie:=by rw [AE9.out,HGJ.out.hit hjl (by rw [HCE.out];exact hi0),HCE.out]
      rw [ZK.out,HG.out.hit hlt (by rw [ha];exact hi0),ha])
     clear hi0
     go_wp2_with fail
     go_ret
     exact⟨HB5W.out,by rw [HE.out];rfl⟩
   ·have HF0:Hid (YK m k=0):=AA (by
     have:j=x.code.length:=by have:=HGJ.out.1;omega
     rw [AE9.out,←this];exact HGJ.out.2)
    have HBR5:Hid (Below w1.heap.size w1 wr):=AA (AAO.out.trans (xS.out.mono AAO.out.size))
    go_wp2_with fail
    exact⟨⟨k+1,by go_num,by rw [HAL.out];rfl,by rw [HAL.out];omega,HG.out.step hlt HF0.out,HBR5.out⟩,by simp [intOf];omega⟩
def aD (s ahead:ByteArray) (first:Bool):Int:=if first then 0 else Ae (!(Sl s ahead)) 18
theorem pE (s ahead:ByteArray) (fst:Bool) (h47:s.size≤140737488351232) (w:World):
 Calls prog 208 #[.string s,.string ahead,.bool fst] w fun e w'=>w=w'∧e= .returned (.int .i64 (EO (Qo s) (aD s ahead fst))):=by
 generalize dU:EO _ _=EE
 have HE:=AA dU
 clear dU
 unfold Qo at HE
 have hsz:s.data.toList.length=s.size:=by simp
 have lQ:=AA hsz;clear hsz
 by_cases h32:s.size≤32
 case neg=>
  have hd:decide (32<s.size)=true:=decide_eq_true (by omega)
  have hdi:decide ((32:Int)<(s.size:Int))=true:=decide_eq_true (by omega)
  have hX:Hid (EE=13):=AA (by rw [←HE.out,ET (decide_eq_false h32)];rfl)
  clear h32 HE
  go_enter func208,ntmps208
  go_wp2_with fail
  go_ret
  exact⟨rfl,by rw [hX.out];rfl⟩
 have hd:decide (32<s.size)=false:=decide_eq_false (by omega)
 have hdi:decide ((32:Int)<(s.size:Int))=false:=decide_eq_false (by omega)
 by_cases hz:s.size=0
 ·have hX:Hid (EE=23):=AA (by rw [←HE.out,D_ (decide_eq_true h32),ET (decide_eq_false (by omega))];rfl)
  have e0:s.toList= []:=by rw [ByteArray.toList_eq];exact List.length_eq_zero_iff.1 (by rw [Array.length_toList];exact hz)
  clear hz HE
  go_enter func208,ntmps208
  go_wp2_with fail
  go_ret
  exact⟨rfl,by rw [hX.out];rfl⟩
 have en: ¬s.toList= []:=fun e=>hz (by rw [ByteArray.toList_eq] at e;have:=congrArg List.length e;rw [Array.length_toList] at this;exact this)
 have e0:(!s.toList.isEmpty)=true:=by cases hh:s.toList with | nil=>exact absurd hh en | cons _ _=>rfl
 have e1:(s.toList== [])=false:=by cases hh:s.toList with | nil=>exact absurd hh en | cons _ _=>rfl
 have HZ:Hid (EE=EO (Ae (s.data.toList.all Tg) 23) (aD s ahead fst)):=AA (by
  rw [←HE.out,D_ (decide_eq_true h32),AY rfl,D_ (decide_eq_true (by omega)),AY rfl])
 have AE_:=zL 9 s ahead
 clear hz HE en h32
 go_enter func208,ntmps208
 go_wp2_with fail
 go_loop [7] (fun i=> ∃k:Nat,k≤s.size∧i= .int .i64 k∧(s.data.toList.drop k).all Tg=s.data.toList.all Tg) (fun i=>s.size-(intOf i).toNat)
 case atStart=>exact⟨0,Nat.zero_le _,rfl,rfl⟩
 case round=>
  obtain⟨k,hk,rfl,hR⟩:=hrel
  have HR2:=AA hR;clear hR
  by_cases hlt:k<s.size
  ·have Hd:=AA (drop_at s.data.toList k (by rw [lQ.out];exact hlt))
   have hb:=byte_at s k hlt
   have Hb:=AA hb;clear hb
   have hk0:(0:Int)≤k:=by omega
   have HR3:Hid ((Tg (s.data.toList[k]?.getD 0)&&(s.data.toList.drop (k+1)).all Tg)=s.data.toList.all Tg):=AA (by rw [←HR2.out,Hd.out];rfl)
   have hbn:(s[k]'hlt).toNat=(s.data.toList[k]?.getD 0).toNat:=congrArg UInt8.toNat Hb.out
   have key:(Tg (s.data.toList[k]?.getD 0)=false∧(decide (((s[k]'hlt).toNat:Int)<33)=true∨(decide (((s[k]'hlt).toNat:Int)<33)=false∧decide ((126:Int)<((s[k]'hlt).toNat:Int))=true)))∨
    (Tg (s.data.toList[k]?.getD 0)=true∧decide (((s[k]'hlt).toNat:Int)<33)=false∧decide ((126:Int)<((s[k]'hlt).toNat:Int))=false):=by
    unfold Tg
    simp only [decide_eq_true_eq,decide_eq_false_iff_not]
    omega
   clear Hd HR2 hbn Hb
   rcases key with⟨hc,k1 | ⟨k1,k2⟩⟩ | ⟨hc,k1,k2⟩
   rotate_left 2
   ·have HG:Hid ((s.data.toList.drop (k+1)).all Tg=s.data.toList.all Tg):=AA (by rw [←HR3.out,hc,Bool.true_and])
    clear hc
    go_wp2_with fail
    exact⟨⟨k+1,by omega,by go_num,HG.out⟩,by simp [intOf];omega⟩
   all_goals
    have hX:Hid (EE=23):=AA (by rw [HZ.out,←HR3.out,hc];rfl)
    clear hc
    go_wp2_with fail
    go_ret
    exact⟨rfl,by rw [hX.out];rfl⟩
  ·have HA:Hid (s.data.toList.all Tg=true):=AA (by rw [←HR2.out,List.drop_of_length_le (by rw [lQ.out];omega)];rfl)
   have HZ2:Hid (EE=aD s ahead fst):=AA (by rw [HZ.out,HA.out,D_ rfl,AY rfl])
   cases fst with
   | true=>
    have hX:Hid (EE=0):=AA HZ2.out
    go_wp2_with fail
    go_ret
    exact⟨rfl,by rw [hX.out];rfl⟩
   | false=>
    cases hle:Sl s ahead with
    | true=>
     have hX:Hid (EE=18):=AA (by rw [HZ2.out];unfold aD;rw [hle];rfl)
     rw [hle] at AE_
     clear hle
     go_wp2_with fail
     go_ret
     exact⟨rfl,by rw [hX.out];rfl⟩
    | false=>
     have hX:Hid (EE=0):=AA (by rw [HZ2.out];unfold aD;rw [hle];rfl)
     rw [hle] at AE_
     clear hle
     go_wp2_with fail
     go_ret
     exact⟨rfl,by rw [hX.out];rfl⟩
end Go.Proofs.YtebgikflpgcnlaaGreatDoor
