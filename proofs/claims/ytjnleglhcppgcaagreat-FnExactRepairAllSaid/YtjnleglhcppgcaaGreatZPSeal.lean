/- Sealing: the plain law. -/
import Derived.Test.YtjnleglhcppgcaaGreatZPSource
import Derived.Test.YtjnleglhcppgcaaGreatZPVal
namespace Go.Proofs.YtjnleglhcppgcaaGreat.En
open Go
theorem F3 {α:Type} {w:α->Int}: ∀ {a b:List α},a.length=b.length->(∀ (j:Nat) (ha:j<a.length) (hb:j<b.length),w a[j] =w b[j])->eN w a=eN w b
 | [],[],_,_=>rfl
 |x::a,y::b,h,h2=>by
  have h0:=h2 0 (by simp) (by simp);simp only[List.getElem_cons_zero] at h0
  have ih:=F3 (w:=w) (a:=a) (b:=b) (by simpa using h) fun j ha hb=>by have:=h2 (j+1) (by simpa using ha) (by simpa using hb);simpa using this
  unfold eN;rw[h0,ih]
abbrev tz (s:dX) (e:Int):dX:=⟨s.up,s.intact,s.version,e,s.config,s.first,s.log,s.commit,s.learned⟩
theorem Te {s:dX} {id:Int} (h:gW 1048576 s) (hv:ey s id=some (true,())):s.config.epoch<=s.epoch:=by
 have hc:=gQ h.1;obtain⟨_,_,_,_,_,_,_,e0,_⟩:=Eb h hv;by_cases hz:s.config=⟨0,0,[],[]⟩
 ·rw[hz];exact e0
 ·refine Int.not_lt.1 fun hlt=> ?_;unfold ey at hv;simp only[lV,ae,fg,uI s.config hc,dV,if_neg hz,if_pos hlt] at hv;cases h1:kE s.version 1 2 with
  |false=>rw[h1] at hv; cases hv
  |true=>
  cases h2:kE s.epoch 0 20 with
  |false=>rw[h1,h2] at hv; cases hv
  |true=>
  rcases vj s.log (eR h.2.1) with ⟨a1,a2,a3⟩| ⟨a1,a2⟩
  case inr=>simp only[h1,h2,a1,ae,eb,ek] at hv; cases hv
  rcases vj s.learned (eR h.2.2) with ⟨b1,b2,b3⟩| ⟨b1,b2⟩
  case inr=>simp only[h1,h2,a1,b1,ae,eb,ek] at hv; cases hv
  simp only[h1,h2,a1,b1,ae,eb] at hv;cases h3:kE s.first 0 16<;>rw[h3] at hv
  ·cases hv
  ·cases h4:kE (IntKind.wrap .i64 (s.first+(s.log.length:Int))) 0 16<;>rw[h4] at hv
   ·cases hv
   ·cases h5:kE s.commit 0 (IntKind.wrap .i64 (s.first+(s.log.length:Int)))<;>rw[h5] at hv
    ·cases hv
    ·cases h6:s.intact<;>rw[h6] at hv<;>cases hv
theorem QA {s:dX} {id:Int} (h:gW 1048576 s) (hv:ey s id=some (true,())) {e:Int} (h1:s.epoch<=e) (h2:e<=20):ey (tz s e) id=some (true,()):=by have hle:=Te h hv;obtain⟨_,_,_,_,_,_,_,e0,e20⟩:=Eb h hv;have w1:kE s.epoch 0 20=true:=fB.2 (by omega);have w2:kE e 0 20=true:=fB.2 (by omega);unfold ey at hv ⊢;simp only[lV,ae,dV,w1,w2,if_neg (show ¬s.epoch<s.config.epoch by omega),if_neg (show ¬e<s.config.epoch by omega)] at hv ⊢;exact hv
theorem TO {m:dY} {s:dX} {k:Int} (ok:gW 1048576 s) (h:SV m s k) {e:Int} (h1:s.epoch<=e) (h2:e<=(m.configs.length:Int)) (h3:m.configs.length<=20):SV m (tz s e) k:=
 ⟨QA ok h.val h1 (by omega),h2,h.lrn,h.cfg⟩
theorem K9 (s:dX) (e:Int) (h:gW 1048576 s): ∃ep b,oU s e=some (tz s ep,b,())/\pc s e=some (tz s ep,b,())/\(ep=s.epoch\/(ep=e/\s.epoch<=e)):=by
 unfold oU pc;simp only[(w5 s h).1,(w5 s h).2,lV,nX,ae,fg,dV];cases kE e 1 20 with
 |false=>exact⟨s.epoch,false,rfl,rfl, .inl rfl⟩
 |true=>
  simp only[eb];by_cases h1:e<=s.epoch
  ·by_cases h2:s.epoch<0
   ·simp only[if_pos h1,if_pos h2];exact⟨s.epoch,false,rfl,rfl, .inl rfl⟩
   ·simp only[if_pos h1,if_neg h2];exact⟨s.epoch,false,rfl,rfl, .inl rfl⟩
  ·by_cases h2:s.epoch<0
   ·simp only[if_neg h1,if_pos h2];exact⟨s.epoch,false,rfl,rfl, .inl rfl⟩
   ·simp only[if_neg h1,if_neg h2];exact⟨e,true,rfl,rfl, .inr ⟨rfl,by omega⟩⟩
abbrev ly (x:dT) (S:List dX):dT:=⟨x.now,S,x.sides,x.master,x.masterUp,x.lease,x.places⟩
theorem JH (x:dT) (ok:iq 1048576 x) (hv:eg x=some (true,())) {id e:Int} (hid:0<=id/\id<5): ∃S,nH x id e=some (ly x S,())/\nR x id e=some (ly x S,())/\iq 1048576 (ly x S)/\eg (ly x S)=some (true,())/\Pa x (ly x S)/\eN sB S=eN sB x.servers:=by
 have vc:=kh ok hv;have hml:=O0 ok.2.2.1 vc.ml;obtain⟨v,v1,v2⟩:=iL x ok;rw[hv] at v1;simp only[af,an,and_true] at v1;subst v1;obtain⟨c,d,d1,d2,d3,_⟩:=O4 ok hv;obtain⟨m,m1,m2,m3,m4,m5,_⟩:=AX c d3;have mm:m.length<=maxLen:=by unfold maxLen; omega
 have same:ly x x.servers=x:=rfl;unfold nH nR;simp only[(qI x ok).1,(qI x ok).2,d1,d2,hv,v2,lV,nX,ae,fg,eb];cases d with
 |false=>exact⟨x.servers,rfl,rfl,ok,hv,Pa.refl x,rfl⟩
 |true=>
  simp only[eb];cases hw:kE e 1 (x.master.configs.length:Int) with
  |false=>exact⟨x.servers,rfl,rfl,ok,hv,Pa.refl x,rfl⟩
  |true=>
   have hw:=fB.1 hw
   obtain⟨S,q,k1,k2⟩:=s5 (B1:=jK) (B2:=jT) m.length
    (fun k (S:List dX)=>((id,e,(),(),(),(),(k:Int),()),(fx x,(0,(),(),(),0,0,0,0,0,(),()),(x.now,(),(),(),x.master.activated,x.masterUp,x.lease.epoch,x.lease.holder,x.lease.ends,(),()),()),(m,S,x.sides,x.master.configs,x.places,())))
    (fun k S=>((id,e,(),(),(),(),(m.length:Int),(k:Int),()),(fx x,(0,(),(),(),0,0,0,0,0,(),()),(x.now,(),(),(),x.master.activated,x.masterUp,x.lease.epoch,x.lease.holder,x.lease.ends,(),()),()),(m,S,x.sides,x.master.configs,x.places,())))
    (fun k S=>S.length=x.servers.length/\ ∀ (j:Nat) (s:dX),x.servers[j]? =some s-> ∃ep,S[j]? =some (tz s ep)/\(ep=s.epoch\/(ep=e/\s.epoch<=e))/\((∀y∈m.drop k,y≠(j:Int))\/ep=s.epoch))
    (fun S=>(((),(),()),((0,(),(),(),0,0,0,0,0,(),()),(x.now,(),(),(),x.master.activated,x.masterUp,x.lease.epoch,x.lease.holder,x.lease.ends,(),()),()),(S,x.sides,x.master.configs,x.places,())))
    (fun S=>(((),(),()),((0,(),(),(),0,0,0,0,0,(),()),(x.now,(),(),(),x.master.activated,x.masterUp,x.lease.epoch,x.lease.holder,x.lease.ends,(),()),()),(S,x.sides,x.master.configs,x.places,())))
    (fun S _=>by simp only[jK,jT,dV];exact⟨if_neg (by omega),if_neg (by omega)⟩)
    (fun k S hk hS=>by
      have c1: (k:Int)< (m.length:Int):=by omega
      have c2: (0:Int)<=(k:Int)/\(k:Int)< (m.length:Int):=by omega
      have hz:=m4 _ (aW hk);have hdr:m.drop k=m[k]::m.drop (k+1):=bD hk
      have hnot: ∀y∈m.drop (k+1),y≠m[k] :=by have h2:SS (m.drop k):=List.Pairwise.sublist (List.drop_sublist k m) m5;rw[hdr] at h2;intro y hy;have:=(cz.1 h2).1 y hy;omega
      generalize hzz:m[k] =z at hz hdr hnot;have hg:m[k]? =some z:=by rw[<-hzz]; exact ah hk
      obtain⟨s,s1,s2,_⟩:=sD ok vc hz;obtain⟨h1,h2⟩:=qE x ok vc hid hz
      have hSz:S[z.toNat]? =some s:=by
       obtain⟨ep,p1,_,p3⟩:=hS.2 _ s s1;rcases p3 with p3|rfl
       ·exact absurd (by omega:z=(z.toNat:Int)) (p3 z (by rw[hdr]; exact aI))
       ·exact p1
      have hlt:z.toNat<S.length:=fR hSz;have c3:0<=z/\z< (S.length:Int):=by omega
      obtain⟨ep,b,q1,q2,q3⟩:=K9 s e s2
      have hkeep:S.length=x.servers.length/\ ∀ (j:Nat) (s:dX),x.servers[j]? =some s-> ∃ep,S[j]? =some (tz s ep)/\(ep=s.epoch\/(ep=e/\s.epoch<=e))/\((∀y∈m.drop (k+1),y≠(j:Int))\/ep=s.epoch):=by refine⟨hS.1,fun j t ht=> ?_⟩;obtain⟨ep,p1,p2,p3⟩:=hS.2 j t ht;exact⟨ep,p1,p2,p3.imp (fun h y hy=>h y (by rw[hdr]; exact aE _ hy)) (fun h=>h)⟩
      simp only[jK,jT,fx,dV,dZ,if_pos c1,if_pos c2,ao,hg,ae,if_pos hz.1,if_pos c3,s1,hSz,h1,h2,aV,ay,if_true,bJ,aX,q1,q2,ec mm hk];cases s.up with
      |false=>exact⟨S,rfl,rfl,hkeep⟩
      |true=>
       cases (lp x id==lp x z) with
       |false=>exact⟨S,rfl,rfl,hkeep⟩
       |true=>
        refine⟨S.set z.toNat (tz s ep),rfl,rfl,by simp[hS.1],fun j t ht=> ?_⟩;by_cases hj:j=z.toNat
        ·subst hj;rw[s1] at ht;have ht:=Option.some.inj ht;subst ht;refine⟨ep,by rw[cw hlt],q3, .inl fun y hy h=>hnot y hy (by omega)⟩
        ·obtain⟨ep',p1,p2,p3⟩:=hkeep.2 j t ht;exact⟨ep',by rw[dH (fun h=>hj h.symm)]; exact p1,p2,p3⟩)
    x.servers ⟨rfl,fun j s h=>⟨s.epoch,h, .inl rfl, .inr rfl⟩⟩
   simp only[eb,m1,m2,ae]
   rw[show uV ((id,e,(),(),(),(),0,()),(fx x,(0,(),(),(),0,0,0,0,0,(),()),(x.now,(),(),(),x.master.activated,x.masterUp,x.lease.epoch,x.lease.holder,x.lease.ends,(),()),()),(m,x.servers,x.sides,x.master.configs,x.places,()))=_ from k1,
    show vd ((id,e,(),(),(),(),(m.length:Int),0,()),(fx x,(0,(),(),(),0,0,0,0,0,(),()),(x.now,(),(),(),x.master.activated,x.masterUp,x.lease.epoch,x.lease.holder,x.lease.ends,(),()),()),(m,x.servers,x.sides,x.master.configs,x.places,()))=_ from k2]
   have at_: ∀j (hj:j<S.length),∃s,x.servers[j]? =some s/\ ∃ep,S[j] =tz s ep/\(ep=s.epoch\/(ep=e/\s.epoch<=e)):=by
    intro j hj;have hj':j<x.servers.length:=by rw[<-q.1]; exact hj
    obtain⟨ep,p1,p2,_⟩:=q.2 j _ (ah hj');rw[ah hj] at p1;exact⟨_,ah hj',ep,Option.some.inj p1,p2⟩
   have sv:=O6 ok hv
   have fin:=R1 ok hv S q.1 (fun s hs=>by
     obtain⟨j,hj,rfl⟩:=aH hs;obtain⟨t,t1,ep,t2,_⟩:=at_ j hj;rw[t2];exact ok.1.2 t (aq t1))
    (fun j hj=>by obtain⟨t,t1,ep,t2,t3⟩:=at_ j hj;have hj':j<x.servers.length:=fR t1;have svj:=sv j hj';rw[ah hj'] at t1;rw[Option.some.inj t1] at svj;have okt:=ok.1.2 x.servers[j] (aW hj');rw[Option.some.inj t1] at okt;rw[t2];have:=svj.ep;exact TO okt svj (by omega) (by omega) hml)
   refine⟨S,rfl,rfl,fin.1,fin.2,⟨rfl,rfl,fun j s h=>by obtain⟨ep,p1,_⟩:=q.2 j s h;exact⟨ep,p1⟩⟩,F3 q.1 fun j ha hb=> ?_⟩
   obtain⟨t,t1,ep,t2,_⟩:=at_ j ha;rw[ah hb] at t1;rw[t2,<-Option.some.inj t1];rfl
end Go.Proofs.YtjnleglhcppgcaaGreat.En
