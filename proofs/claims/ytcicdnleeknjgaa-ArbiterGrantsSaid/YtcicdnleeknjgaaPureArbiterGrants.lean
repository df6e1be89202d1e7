/- The law ArbiterGrants, as the printed row asks it: proved in YtcicdnleeknjgaaMyArbL3. -/
import Derived.Test.YtcicdnleeknjgaaMyArbL3
