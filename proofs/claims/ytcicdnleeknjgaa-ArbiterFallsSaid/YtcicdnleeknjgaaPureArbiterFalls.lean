/- The law ArbiterFalls, as the printed row asks it: proved in YtcicdnleeknjgaaMyArbL5. -/
import Derived.Test.YtcicdnleeknjgaaMyArbL5
