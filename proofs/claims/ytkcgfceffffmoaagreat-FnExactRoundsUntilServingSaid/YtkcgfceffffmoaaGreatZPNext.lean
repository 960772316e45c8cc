/- The members planned; the next configuration. -/
import Derived.Test.YtkcgfceffffmoaaGreatZPPlan
import Derived.Test.YtkcgfceffffmoaaGreatZPInst
namespace Go.Proofs.YtkcgfceffffmoaaGreat.En
open Go
theorem MH.filter {l:List Int} (h:MH l) (p:Int->Bool):MH (l.filter p):=by
 refine akK (h.pair.filter p) fun y hy=> ?_;obtain⟨k,hk,rfl⟩:=aM (cr.1 hy).1;have:=(h k hk).1;omega
theorem ai2:MH [0,1,2,3,4] :=by
 refine akK (by simp [SS]) fun y hy=> ?_;simp at hy;omega
theorem ai3 (l:List ey) (hl:l.length<=maxLen) (hv:kB l=some (true,())) (m a:List Int) (hm:MH m) (ha:MH a) (want:Int): ∃ r,rX l m a want=some (r,())/\sj l m a want=some (r,())/\MH r:=by
 have al:=ha.len;have am:a.length<=maxLen:=by unfold maxLen; omega
 obtain⟨m1,m2⟩:=ags hm;obtain⟨a1,a2⟩:=ags ha
 have hp2:mA l=some (true,()):=by
  obtain⟨b,p1,p2⟩:=Ds l hl;rw [hv] at p1;simp only [af,aq,and_true] at p1;subst p1;exact p2
 unfold rX B3 sj CC;simp only [X8 m a hm am,alA m a hm am,ao4 _ a ai2 am,SW _ a ai2 am,aa9,hv,hp2,m1,m2,a1,a2,vk,z6,ae,iq,ew];cases sP want 0 5 with
 | false=>exact⟨[],rfl,rfl,fun k hk=>by simp at hk⟩
 | true=>
   have dl:=(ai2.filter fun x=> !decide (x∈a)).len;generalize ([0,1,2,3,4]:List Int).filter (fun x=> !decide (x∈a))=dead at dl;have dm:dead.length<=maxLen:=by unfold maxLen; omega
   have go: ∀ (d:Nat) (out:List Int),MH out->(want - out.length).toNat<=d-> ∃ r,(o0 ((l,want,(),(),()),(),(out,dead,()))=some (.inl (((),(),()),(),(r,())))\/o0 ((l,want,(),(),()),(),(out,dead,()))=some (.inr (((),(),()),(),(r,()))))/\qZ ((l,want,(),(),()),(),(out,dead,()))=some (((),()),(),(r,()))/\MH r:=by
    intro d
    induction d with
    | zero=>
      intro out ho hd;have c: ¬ (out.length:Int) < want:=by omega
      refine⟨out, .inr (kF ?_),kF ?_,ho⟩
      ·simp only [j6,nM,pT];rw [ec,if_neg c]
      ·simp only [kg,nS,pX];rw [ec,if_neg c]
    | succ d ih=>
      intro out ho hd;have ol:=ho.len;by_cases c: (out.length:Int) < want
      ·obtain⟨n,n1,n2,n3⟩:=adZ l hl hv out dead ho dm;rcases n3 with rfl | ⟨n3,n4,n5⟩
       ·refine⟨out, .inl (kF ?_),kF ?_,ho⟩
        ·simp only [j6,nM,pT,ec,if_pos c,n1,ae];rw [if_pos (by omega)]
        ·simp only [kg,nS,pX,ec,if_pos c,n2,ae];rw [if_pos (by omega)]
       ·obtain⟨r,r1,r2,r3,r4,r5⟩:=asI out n (by omega) ho.pair;obtain⟨s,_,s2,s3,s4,_⟩:=aqS out [n] (by simp; omega)
        have hrs:r=s:=r2.uniq s3 fun y=>by
         rw [r3,s4,aD];exact Or.comm
        subst hrs
        have hr:MH r:=akK r2 fun y hy=>by
         rcases (r3 y).1 hy with rfl | h
         ·omega
         ·obtain⟨k,hk,rfl⟩:=aM h;have:=(ho k hk).1;omega
        have hlen:r.length=out.length+1:=r5 n5;obtain⟨t,t1,t2,t3⟩:=ih r hr (by omega)
        have e1:o0 ((l,want,(),(),()),(),(out,dead,()))=o0 ((l,want,(),(),()),(),(r,dead,())):=by
         refine rd ?_;simp only [j6,nM,pT,ec,if_pos c,n1,ae,if_neg (show ¬ n < 0 by omega),r1]
        have e2:qZ ((l,want,(),(),()),(),(out,dead,()))=qZ ((l,want,(),(),()),(),(r,dead,())):=by
         refine rd ?_;simp only [kg,nS,pX,ec,if_pos c,n2,ae,if_neg (show ¬ n < 0 by omega),s2]
        rw [e1,e2];exact⟨t,t1,t2,t3⟩
      ·refine⟨out, .inr (kF ?_),kF ?_,ho⟩
       ·simp only [j6,nM,pT];rw [ec,if_neg c]
       ·simp only [kg,nS,pX];rw [ec,if_neg c]
   simp only [ew];obtain⟨r,r1,r2,r3⟩:=go _ _ (hm.filter fun x=>decide (x∈a)) (aE _);rw [r2];rcases r1 with r1 | r1 <;> rw [r1] <;> exact⟨r,rfl,rfl,r3⟩
def JV (x:dV) (e id:Int):Bool:=mE x id.toNat&&(match x.servers[id.toNat]? with | some s=>s.config.epoch==e | none=>false)
theorem akS (x:dV) (ok:pg 1048576 x) (want:Int): ∃ n b,uo x want 0=some (n,b,())/\uz x want 0=some (n,b,())/\nm 1048576 n/\n.replicas.length<=5/\n.witnesses= [] :=by
 obtain⟨v,v1,v2⟩:=od x ok;unfold uo DB uz DT;simp only [v1,v2,ae,iq,vk,z6,show sP 0 0 1=true by decide,ew];have zero:nm 1048576 ⟨0,0,[],[]⟩:=⟨aK _,aK _⟩
 cases v with
 | false=>exact⟨_,_,rfl,rfl,zero,aK _,rfl⟩
 | true=>
   simp only [ew];cases sP want 1 3 with
   | false=>exact⟨_,_,rfl,rfl,zero,aK _,rfl⟩
   | true=>
     have vc:=rU ok v1;have hml:=ao5 ok.2.2.1 vc.ml;simp only [ew,sx,ec];by_cases h20: (x.master.configs.length:Int)=20
     ·simp only [if_pos h20,if_pos (show (x.master.configs.length:Int)≥20 by omega)];exact⟨_,_,rfl,rfl,zero,aK _,rfl⟩
     ·obtain⟨c,d,d1,d2,d3,d4,d5,d6⟩:=EI x ok v1;have hsl:=Gy (gJ ok.2.1) vc.sides
      have asc:MH c.replicas/\(d=true->1<=c.epoch)/\(d=true->c≠⟨0,0,[],[]⟩):=by
       cases d with
       | false=>rw [d6 rfl]; exact⟨fun k hk=>by simp at hk,nofun,nofun⟩
       | true=>
         obtain⟨q1,_,_,q4,_⟩:=Gw d3 (d5 rfl).1;exact⟨q1,fun _=>q4,fun _ e=>by rw [e] at q4; simp at q4⟩
      obtain⟨asc,ep,nz⟩:=asc;have rl:=asc.len;have rm:c.replicas.length<=maxLen:=by unfold maxLen; omega
      have inr: ∀ z∈c.replicas,0<=z/\z < 5:=by
       intro z hz;obtain⟨k,hk,rfl⟩:=aM hz;have:=(asc k hk).1;omega
      have ial:=alD (mE x) (aE 5)
      have iam: (IP (mE x) 5).length<=maxLen:=by
       have:=ial.len;unfold maxLen;omega
      have memA: ∀ z,0<=z/\z < 5->decide (z∈IP (mE x) 5)=mE x z.toNat:=by
       intro z hz;cases h:mE x z.toNat with
       | true=>exact decide_eq_true ((SZ _ _ _).2 ⟨z.toNat,by omega,h,by omega⟩)
       | false=>
         refine decide_eq_false fun hm=> ?_;obtain⟨k,_,k2,k3⟩:=(SZ _ _ _).1 hm;have :z.toNat=k:=by omega
         rw [this,k2] at h;cases h
      have kS:=mU (B:=lY) c.replicas (fun k (b:List Int)=>((want,0,(),(),(),(),(),(k:Int),()),((x.now,x.servers,x.sides,x.master.configs,x.master.activated,x.masterUp,x.lease.epoch,x.lease.holder,x.lease.ends,x.places,()),(0,0,(),(),()),(c.epoch,c.primary,(),(),()),()),(IP (mE x) 5,b,c.replicas,c.witnesses,()))) (fun k b=>b=(c.replicas.take k).filter (JV x c.epoch))
       (fun _ _ _=>((want,0,(),(),(),(),(),()),((x.now,x.servers,x.sides,x.master.configs,x.master.activated,x.masterUp,x.lease.epoch,x.lease.holder,x.lease.ends,x.places,()),(0,0,(),(),()),(c.epoch,c.primary,(),(),()),()),(IP (mE x) 5,c.replicas.filter (JV x c.epoch),c.replicas,c.witnesses,())))
       (fun b hb=>by
         simp only [lY,uP,Ah];rw [ec,if_neg (by omega),hb,bg])
       (fun k b z hz hb=>by
         have hk:=nG hz;have c1: (k:Int) < (c.replicas.length:Int):=by omega
         have c2: (0:Int)<=(k:Int)/\(k:Int) < (c.replicas.length:Int):=by omega
         have hzz:=inr z (au hz);have hlt:z.toNat < x.servers.length:=by rw [vc.len]; omega
         have hol:b.length<=5:=by
          rw [hb];have:=cN (JV x c.epoch) (c.replicas.take k);simp only [cm] at this;omega
         have h40: (b++ [z]).length*8<=2 ^ 40:=qA (by simp; omega)
         have hke:JV x c.epoch z=(mE x z.toNat&&(x.servers[z.toNat].config.epoch==c.epoch)):=by
          unfold JV;rw [ai hlt]
         have hS:jv (IP (mE x) 5) z=some (mE x z.toNat,()):=by rw [(kP _ z iam).1,memA z hzz]
         simp only [lY,uP,Ah,ec,sx,ez,if_pos c1,if_pos c2,aw,hz,ae,hS,if_pos hzz.1,ai hlt,eB rm hk,if_pos h40];simp only [lG hz,bP];cases ha:mE x z.toNat with
         | false=>exact .inl ⟨b,rfl,by rw [hb]; simp [hke,ha],trivial⟩
         | true=>
           simp only [ew];by_cases he:x.servers[z.toNat].config.epoch=c.epoch
           ·simp only [if_pos he];exact .inl ⟨b++ [z],rfl,by rw [hb]; simp [hke,ha,he],trivial⟩
           ·simp only [if_neg he];exact .inl ⟨b,rfl,by rw [hb]; simp [hke,ha,he],trivial⟩)
       0 [] (aK _) rfl
      have hsv:gG x x=some (IP (mE x) 5,()):=by
       have hm5:x.servers.length<=maxLen:=gJ ok.1.1
       have kk:=mU (B:=fr) x.servers (fun k (b:List Int)=>(((x,()),(),x.servers,(x.servers.length:Int),(k:Int),()),(),(b,()))) (fun k b=>b=IP (mE x) k) (fun _ _ _=>(((),()),(),(IP (mE x) 5,())))
        (fun b hb=>by
          simp only [fr,i8,kL];rw [ec,if_neg (by omega),hb,vc.len])
        (fun k b s hs hb=>by
          have hk:=nG hs;have c1: (k:Int) < (x.servers.length:Int):=by omega
          have c2: (0:Int)<=(k:Int):=by omega
          have hk5:k < 5:=by rw [<-vc.len]; exact hk
          have h40: (b++ [(k:Int)]).length*8<=2 ^ 40:=by rw [hb]; exact ao0 (by omega) _
          simp only [fr,i8,kL,qX,yF,ec,ez,if_pos c1,if_pos c2,aw,hs,ae,ao3 x vc.len hsl k hk5,if_pos h40,eB hm5 hk];rw [aa5,<-hb];cases mE x k with
          | true=>exact .inl ⟨b++ [(k:Int)],rfl,rfl,trivial⟩
          | false=>exact .inl ⟨b,rfl,by simp,trivial⟩)
        0 [] (aK _) rfl
       unfold gG lJ;simp only [v2,ae,bw,fA];rw [show kQ (((x,()),(),x.servers,(x.servers.length:Int),0,()),(),([],()))=_ from kk];rfl
      have hdel:fQ c.replicas x c=some (c.replicas.filter (JV x c.epoch),()):=by
       have h:=arM (F:=fun a=>fQ a x c) (B2:=fH) (B5:=fv) (x,c,()) (fun i=>nx i x c) (fun i=> !JV x c.epoch i) (fun _=>rfl) (fun _ _ _=>rfl) (fun _ _ _=>rfl) c.replicas (by omega) (fun z hz=>by
        have hzz:=inr z hz;have hlt:z.toNat < x.servers.length:=by rw [vc.len]; omega
        have hu:=ao3 x vc.len hsl z.toNat (by omega);rw [Int.toNat_of_nonneg hzz.1] at hu;unfold nx yG JV;simp only [hu,ae,ez,if_pos hzz.1,ai hlt,iq];cases mE x z.toNat <;> rfl)
       simpa using h
      obtain⟨r,r1,r2,r3⟩:=ai3 x.places (gJ ok.2.2.2) vc.places (c.replicas.filter (JV x c.epoch)) (IP (mE x) 5) (asc.filter _) ial want;have rl':=r3.len;have rm':r.length<=maxLen:=by unfold maxLen; omega
      obtain⟨w,w1,w2⟩:=adZ x.places (gJ ok.2.2.2) vc.places r (([0,1,2,3,4]:List Int).filter fun y=> !decide (y∈IP (mE x) 5)) r3 (by
       have:=(ai2.filter fun y=> !decide (y∈IP (mE x) 5)).len;unfold maxLen;omega)
      simp only [if_neg h20,if_neg (show ¬ (x.master.configs.length:Int)≥20 by omega),asJ x ok v1,d1,d2,hsv,ae,oa,zD];rw [jT (qA (show c.replicas.length<=1048576 by omega))];rw [show B4 ((want,0,(),(),(),(),(),0,()),((x.now,x.servers,x.sides,x.master.configs,x.master.activated,x.masterUp,x.lease.epoch,x.lease.holder,x.lease.ends,x.places,()),(0,0,(),(),()),(c.epoch,c.primary,(),(),()),()),(IP (mE x) 5,[],c.replicas,c.witnesses,()))=_ from kS];simp only [ae,hdel,r1,r2,(kP r c.primary rm').1,(kP r c.primary rm').2,aa9,SW _ _ ai2 iam,w2.1,JT _ d3,show (⟨c.epoch,c.primary,c.replicas,c.witnesses⟩:dW)=c from rfl];by_cases h0: (r.length:Int)=0
      ·simp only [if_pos h0];exact⟨_,_,rfl,rfl,zero,aK _,rfl⟩
      ·have c0: (0:Int)<=0/\(0:Int) < (r.length:Int):=by omega
       have hg:r[(0:Int).toNat]? =some (r[0]'(by omega)):=ai _;simp only [if_neg h0,ez,if_pos c0,hg,ae,iq,ec,show ¬ (0:Int)=1 by omega,if_false];have fin: ∀ p:Int,nm 1048576 ⟨IntKind.wrap .i64 ((x.master.configs.length:Int)+1),p,r,[]⟩:=fun p=>⟨by show r.length<=_; omega,aK _⟩
       cases d with
       | false=>
         have hc:=d6 rfl;subst hc;simp only [decide_true,if_true,show ¬ (0:Int) > 0 by omega,if_false];by_cases hmem: (0:Int)∈r
         ·simp only [if_pos hmem];exact⟨_,_,rfl,rfl,fin _,rl',rfl⟩
         ·simp only [if_neg hmem];exact⟨_,_,rfl,rfl,fin _,rl',rfl⟩
       | true=>
         have he:=ep rfl;simp only [decide_eq_false (nz rfl),if_neg (nz rfl),if_pos (show c.epoch > 0 by omega)];by_cases hmem:c.primary∈r
         ·simp only [if_pos hmem];exact⟨_,_,rfl,rfl,fin _,rl',rfl⟩
         ·simp only [if_neg hmem];exact⟨_,_,rfl,rfl,fin _,rl',rfl⟩
end Go.Proofs.YtkcgfceffffmoaaGreat.En
